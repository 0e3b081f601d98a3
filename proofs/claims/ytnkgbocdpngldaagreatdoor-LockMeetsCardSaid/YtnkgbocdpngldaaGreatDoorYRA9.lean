/-
  Texts of this claim: RA9, RA10.
-/
import Derived.Laws.AppendOwnNone
import Derived.Test.YtnkgbocdpngldaaGreatDoorYNev
import Derived.Test.YtnkgbocdpngldaaGreatDoorYRA5
import Derived.Test.YtnkgbocdpngldaaGreatDoorYA
set_option linter.unusedVariables false
set_option linter.unusedSimpArgs false
set_option maxRecDepth 100000
set_option maxHeartbeats 8000000

namespace Go.Proofs.YtnkgbocdpngldaaGreatDoor
open Go.RowKit Dc Dg
theorem aN.setType {B:Nat} {w:World} {v:Value} {l:List Int} (h:aN B w v l) {b i:Nat} (u:Value) {cs:Array Value} {t:TypeId} (hb:w.heap[b]?=some (.cells cs t (0,0))) (ht:t≠3):aN B (w.setCell ⟨b,i,none⟩ u) v l :=
 h.same (fun k hk=>by
  obtain ⟨_,_,cur,h2⟩:=ax h hk
  refine heap_setCell_other _ _ _ _ (fun e=>?_)
  subst e
  rw [hb] at h2
  cases h2
  exact ht rfl)
theorem aN.n {B:Nat} {w:World} {p:Option Addr} {n c:Nat} {l:List Int} (h:aN B w (.slice p n c) l):n=l.length:=by
 obtain ⟨a,c',e⟩:=h.slice
 simp only [Value.slice.injEq] at e
 exact e.2.1
theorem aN.stored {B:Nat} {w:World} {g n c:Nat} {l:List Int} (h:aN B w (.slice (some ⟨g,0,none⟩) n c) l) (j:Nat) (z:Int):aN B (w.setCell ⟨g,j,none⟩ (.int .i64 z)) (.slice (some ⟨g,0,none⟩) n c) (l.set j z):=by
 obtain rfl:=h.n
 have:=(World.ownsRow.stored h j (.int .i64 z)).1
 unfold aN
 rw [List.map_set,D7]
 exact this
theorem aN.cellAt {B:Nat} {w:World} {g n c:Nat} {l:List Int} (h:aN B w (.slice (some ⟨g,0,none⟩) n c) l) {j:Nat} {z:Int} (hj:l[j]?=some z):w.cell? ⟨g,j,none⟩=some (.int .i64 z):=by
 have hjl:=(C4.1 hj).1
 obtain rfl:=h.n
 rw [World.ownsRow.cellAt h j (by omega),Do,hj];rfl
theorem aN.frozenAt {B:Nat} {w:World} {g n c:Nat} {l:List Int} (h:aN B w (.slice (some ⟨g,0,none⟩) n c) l) (j:Nat):w.frozen? ⟨g,j,none⟩=false:=by
 obtain rfl:=h.n
 exact World.ownsRow.frozenAt h j
theorem aN.some {B:Nat} {w:World} {v:Value} {l:List Int} (h:aN B w v l) (hl:0<l.length):∃ g c,v=.slice (Option.some ⟨g,0,none⟩) l.length c∧B≤g∧g<w.heap.size:=by
 rcases h.2 with ⟨rfl,hn⟩ | ⟨g,cap,cur,rfl,hb,hg,_⟩
 ·omega
 ·exact ⟨g,cap,rfl,hb,ac hg⟩
theorem aN.nil (B:Nat) (w:World):aN B w (.slice none 0 0) []:=World.ownsRow_nil _ _ _ _
structure cF (B:Nat) (w:World) (u1 u2:Value) (al fl:List Int):Prop where
 a:aN B w u1 al
 f:aN B w u2 fl
 ap:∀ k,u1.ownBlock=some k→u2.ownBlock≠some k
theorem cF.below {B:Nat} {w w':World} {u1 u2:Value} {al fl:List Int} (h:cF B w u1 u2 al fl) (hb:Below w.heap.size w w'):cF B w' u1 u2 al fl:=⟨h.a.below hb,h.f.below hb,h.ap⟩
theorem cF.base {B B':Nat} {w:World} {u1 u2:Value} {al fl:List Int} (h:cF B w u1 u2 al fl) (hb:B'≤B):cF B' w u1 u2 al fl:=⟨h.a.base hb,h.f.base hb,h.ap⟩
theorem cF.put {B:Nat} {w:World} {v1 v2:Value} {al fl:List Int} (h:cF B w v1 v2 al fl) {b:Nat} {u1 u2:Value} {cs:Array Value} {t:TypeId} (hb:w.heap[b]?=some (.cells cs t (0,0))) (ht:t≠3):cF B (bY w b u1 u2) v1 v2 al fl:=by
 have h2:(w.setCell ⟨b,0,none⟩ u1).heap[b]?=some (.cells (cs.setIfInBounds 0 u1) t (0,0)):=heap_setCell_same w b 0 _ _ u1 hb
 exact ⟨(h.a.setType _ hb ht).setType _ h2 ht,(h.f.setType _ hb ht).setType _ h2 ht,h.ap⟩
theorem cF.setA {B:Nat} {w:World} {g n c:Nat} {u2:Value} {al fl:List Int} (h:cF B w (.slice (some ⟨g,0,none⟩) n c) u2 al fl) (j:Nat) (z:Int):cF B (w.setCell ⟨g,j,none⟩ (.int .i64 z)) (.slice (some ⟨g,0,none⟩) n c) u2 (al.set j z) fl :=
 ⟨h.a.stored j z,h.f.same (fun k hk=>heap_setCell_other _ _ _ _ (fun e=>h.ap g rfl (by rw [show k=g from e] at hk;exact hk))),h.ap⟩
theorem cF.setF {B:Nat} {w:World} {g n c:Nat} {u1:Value} {al fl:List Int} (h:cF B w u1 (.slice (some ⟨g,0,none⟩) n c) al fl) (j:Nat) (z:Int):cF B (w.setCell ⟨g,j,none⟩ (.int .i64 z)) u1 (.slice (some ⟨g,0,none⟩) n c) al (fl.set j z) :=
 ⟨h.a.same (fun k hk=>heap_setCell_other _ _ _ _ (fun e=>h.ap k hk (by rw [show k=g from e];rfl))),h.f.stored j z,h.ap⟩
theorem lS (q:Option Addr) (n c:Nat) (l:List Int) (w:World) (hl:aY w (.slice q n c) l) (hq:q=none→c=0) (hn:l.length*8≤140737488351232) :
  Calls Tryz.prog 76 #[.slice q n c] w fun e w'=>∃ p d,e=.returned (.slice p l.length d)∧aN w.heap.size w' (.slice p l.length d) l∧Below w.heap.size w w':=by
 obtain ⟨i0,hi,hz0,hz1,hz2⟩:=info_parts yF
 obtain ⟨p',c',e,hc⟩:=hl.at_
 obtain ⟨rfl,rfl,rfl⟩:q=p'∧n=l.length∧c=c':=by simpa using e
 have hown:w.ownsRow w.heap.size 3 1 (.slice none 0 0) 0 []:=World.ownsRow_nil _ _ _ _
 cases q with
 | none =>
  have h0:l.length=0:=by
   rcases DY l.length with h | h
   ·exact h
   ·obtain ⟨b,o,h2,_⟩:=hc h
    cases h2
  have hl0:l=[]:=Dt h0
  subst hl0
  obtain rfl:=hq rfl
  clear hc hq hl hn
  go_enter Tryz.func76,Tryz.ntmps76
  go_wp2_with (at_builtin;refine wpList_append_own_none rfl _ _ 39 rfl w.heap.size 3 i0 1 Tryz.underlying39 hi _ 0 [] rfl hown rfl ?_)
  go_ret
  exact ⟨none,0,rfl,aN.nil _ _,Below.refl _ _⟩
 | some ad =>
  have H1:∀ j u,(l.map (Value.int .i64))[j]?=some u→w.cell? (ad.add j)=some u:=by
   intro j u hj
   have hjl:j<l.length:=by have:=(C4.1 hj).1;simpa using this
   obtain ⟨b,o,e2,_,hcl⟩:=hc (by omega)
   obtain rfl:=Option.some.inj e2
   rw [Do,C1 hjl] at hj
   rw [←Option.some.inj hj,jd]
   exact hcl j hjl
  have H2:∀ u∈l.map (Value.int .i64),u.oneCell'=true:=by
   intro u hu
   obtain ⟨d,_,rfl⟩:=DA.1 hu
   rfl
  have H3:0+l.length≤maxLen:=by unfold maxLen;omega
  have HH:=CX (And.intro H1 (And.intro H2 H3))
  clear H1 H2 H3 hc hq hl
  go_enter Tryz.func76,Tryz.ntmps76
  go_wp2_with (at_builtin;refine wpList_append_own _ rfl _ _ 39 rfl w.heap.size 3 i0 (.int .i64 0) 1 8 Tryz.underlying39 hi hz0 hz1 hz2 rfl (by decide) _ 0 [] rfl hown ad l.length c (l.map (Value.int .i64)) rfl (by simp) HH.out.1 HH.out.2.1 HH.out.2.2 (by omega) (CZ _) ?_;intro v' w' hown' hg hv)
  rw [DR,D8] at hown'
  have HB:Below w.heap.size w w':=(Below.refl _ _).grown hg (CZ _) (fun k hk=>by cases hk)
  have HR:Hid (aN w.heap.size w' v' l):=hown'
  clear hown' hg hv
  obtain ⟨p2,d2,rfl⟩:=HR.out.slice
  go_wp2_with fail
  go_ret
  exact ⟨p2,d2,rfl,HR.out,HB⟩
structure OwS (w0 w:World) (pa:Option Addr) (na ca:Nat) (pf:Option Addr) (nf cf:Nat) (al fl:List Int):Prop where
 s0:w.heap[w0.heap.size]?=some (.cells #[.slice pa na ca,.slice pf nf cf] 41 (0,0))
 s1:w.heap[w0.heap.size+1]?=some (.cells #[.slice none 0 0,.slice none 0 0] 41 (0,0))
 ia:aY w (.slice pa na ca) al
 jf:aY w (.slice pf nf cf) fl
 bl:Below w0.heap.size w0 w
theorem OwS.below {w0 w w':World} {pa:Option Addr} {na ca:Nat} {pf:Option Addr} {nf cf:Nat} {al fl:List Int} (h:OwS w0 w pa na ca pf nf cf al fl) (hb:Below w.heap.size w w'):OwS w0 w' pa na ca pf nf cf al fl :=
 ⟨(hb.block _ (ac h.s0)).trans h.s0,(hb.block _ (ac h.s1)).trans h.s1,h.ia.below hb,h.jf.below hb,h.bl.trans (hb.mono h.bl.size)⟩
theorem uU (pa:Option Addr) (na ca:Nat) (pf:Option Addr) (nf cf:Nat) (al fl:List Int) (w:World) (hA:aY w (.slice pa na ca) al) (hF:aY w (.slice pf nf cf) fl) (hqa:pa=none→ca=0) (hqf:pf=none→cf=0) (hla:al.length*8≤140737488351232) (hlf:fl.length*8≤140737488351232) :
  Calls Tryz.prog 37 #[.agg #[.slice pa na ca,.slice pf nf cf]] w fun e w'=>∃ u1 u2,e=.returned (.agg #[u1,u2])∧cF w.heap.size w' u1 u2 al fl∧Below w.heap.size w w':=by
 have hl:=iN w (.cells #[.slice pa na ca,.slice pf nf cf] 41) (.cells #[.slice none 0 0,.slice none 0 0] 41)
 have S0:OwS w ((w.alloc (.cells #[.slice pa na ca,.slice pf nf cf] 41)).alloc (.cells #[.slice none 0 0,.slice none 0 0] 41)) pa na ca pf nf cf al fl:=⟨hl.s0,hl.s1,hA.below hl.below,hF.below hl.below,hl.below⟩
 have hS:=S0.below (below_drewN (Below.refl _ _) 1)
 clear hA hF hl S0
 go_enter Tryz.func37,Tryz.ntmps37
 go_upto_region 1 with fail
 generalize (w.alloc (.cells #[.slice pa na ca,.slice pf nf cf] 41)).alloc (.cells #[.slice none 0 0,.slice none 0 0] 41)=w1 at *
 refine wp_mono (aw (Q:=aJ _) (fun wx:World=>OwS w wx pa na ca pf nf cf al fl) (fun i=>i == 7) (by kernel_rfl) ?_) (fun _ _ _ h=>aK h)
 change OwS w w1.drew pa na ca pf nf cf al fl at hS
 generalize w1.drew=w2 at *
 refine ae (i:=0) (v:=?vv1) rfl (by kernel_rfl) (fun _ _ _ h=>h) rfl ?hy1 ?rest1
 case hy1=>(intro wy;go_simp;try with_reducible rfl)
 try simp only [Act.put,CY,CV,CW,CS,CU,CT]
 refine ae (i:=3) (v:=?vv2) rfl (by kernel_rfl) (fun _ _ _ h=>h) rfl ?hy2 ?rest2
 case hy2=>(intro wy;go_simp;try with_reducible rfl)
 try simp only [Act.put,CY,CV,CW,CS,CU,CT]
 refine am (i:=1) (v:=?vvA) rfl (by kernel_rfl) (fun _ _ _ h=>h) rfl hS ?hyA ?restA
 case hyA =>
  intro wy hy
  have e0:=aa hy.s0 0;have e1:=aa hy.s0 1
  clear hy
  go_simp
  try with_reducible rfl
 try simp only [Act.put,CY,CV,CW,CS,CU,CT]
 refine am (i:=4) (v:=?vvB) rfl (by kernel_rfl) (fun _ _ _ h=>h) rfl hS ?hyB ?restB
 case hyB =>
  intro wy hy
  have e0:=aa hy.s0 0;have e1:=aa hy.s0 1
  clear hy
  go_simp
  try with_reducible rfl
 try simp only [Act.put,CY,CV,CW,CS,CU,CT]
 refine ak (i:=2) rfl (by kernel_rfl) rfl (fun K hK=>?_)
 go_simp
 refine (lS _ _ _ _ _ hS.ia hqa hla).mono ?_
 rintro e w4 ⟨q1,d1,rfl,hI1,hb4⟩
 have hS4:=hS.below hb4
 refine hK _ _ (fun _ _=>hS4) ?_
 clear hK K
 try simp only [Act.put,CY,CV,CW,CS,CU,CT]
 refine ak (i:=5) rfl (by kernel_rfl) rfl (fun K hK=>?_)
 go_simp
 have hb2:=hS.bl.size
 clear hS
 have hS:=hS4
 clear hS4
 refine (lS _ _ _ _ _ hS.jf hqf hlf).mono ?_
 rintro e w6 ⟨q2,d2,rfl,hI2,hb6⟩
 have hS6:=hS.below hb6
 have hL:cF w.heap.size w6 (.slice q1 al.length d1) (.slice q2 fl.length d2) al fl:=⟨(hI1.below hb6).base hb2,hI2.base hS.bl.size,fun k h1 h2=>by
  have a1:=(ax hI1 h1).2.1
  have a2:=(ax hI2 h2).1
  omega⟩
 refine hK _ _ (fun _ _=>hS6) ?_
 clear hK K hS hI1 hI2 hb4 hb6 hb2
 have hS:=hS6
 clear hS6
 try simp only [Act.put,CY,CV,CW,CS,CU,CT]
 refine ae (i:=6) (v:=?vv3) rfl (by kernel_rfl) (fun _ _ _ h=>h) rfl ?hy3 ?rest3
 case hy3=>(intro wy;go_simp;try with_reducible rfl)
 try simp only [Act.put,CY,CV,CW,CS,CU,CT]
 have hP:ez w6 (bY w6 (w.heap.size+1) (.slice q1 al.length d1) (.slice q2 fl.length d2)) (w.heap.size+1) _ #[.slice q1 al.length d1,.slice q2 fl.length d2]:=aV hS.s1
 have HL:=CX (hL.put (u1:=.slice q1 al.length d1) (u2:=.slice q2 fl.length d2) hS.s1 (by decide))
 have hB:=hS.bl.trans (hP.below w.heap.size (by omega))
 have c0:=aa hS.s1 0
 have c1:=aa hS.s1 1
 have f0:=frozen_of_row w6 (w.heap.size+1) 0 _ _ hS.s1
 have f1:=frozen_of_row w6 (w.heap.size+1) 1 _ _ hS.s1
 clear hS hL
 refine ak (i:=7) rfl (by kernel_rfl) rfl (fun K hK=>?_)
 go_simp
 change K _ (bY w6 (w.heap.size+1) (.slice q1 al.length d1) (.slice q2 fl.length d2))
 refine hK _ _ (fun h=>by cases h) ?_
 clear hK K c0 c1 f0 f1
 try simp only [Act.put,CY,CV,CW,CS,CU,CT]
 refine aA (by kernel_rfl) ?_ _
 simp only [aJ]
 go_wp2_with fail
 (try simp only [Exit.inBlock,Exit.then])
 refine bodyPost_ret (results_cell_row rfl _ _ (w.heap.size+1) _ _ (0,0) _ rfl hP.row Tryz.underlying41 rfl (by kernel_rfl)) rfl ?_
 exact ⟨_,_,rfl,HL.out,hB⟩
end Go.Proofs.YtnkgbocdpngldaaGreatDoor

namespace Go.Proofs.YtnkgbocdpngldaaGreatDoor
open Go.RowKit Dc Dg
theorem kD (pa:Option Addr) (na ca:Nat) (pf:Option Addr) (nf cf:Nat) (al fl:List Int) (g:Nat) (k:Int) (w:World) (hA:aY w (.slice pa na ca) al) (hF:aY w (.slice pf nf cf) fl) (hqa:pa=none→ca=0) (hqf:pf=none→cf=0) (hla:al.length≤1000) (hlf:fl.length≤1000) (hg:g<al.length) (hgf:g<fl.length) :
  Calls Tryz.prog 97 #[.agg #[.slice pa na ca,.slice pf nf cf],.int .i64 g,.int .i64 k] w fun e w'=>∃ u1 u2,e=.returned (.agg #[u1,u2])∧cF w.heap.size w' u1 u2 (al.set g k) (fl.set g 0)∧Below w.heap.size w w':=by
 have hl:=iN w (.cells #[.slice pa na ca,.slice pf nf cf] 41) (.cells #[.slice none 0 0,.slice none 0 0] 41)
 have S0:OwS w ((w.alloc (.cells #[.slice pa na ca,.slice pf nf cf] 41)).alloc (.cells #[.slice none 0 0,.slice none 0 0] 41)) pa na ca pf nf cf al fl:=⟨hl.s0,hl.s1,hA.below hl.below,hF.below hl.below,hl.below⟩
 clear hA hF hl
 go_enter Tryz.func97,Tryz.ntmps97
 go_upto_region 1 with fail
 generalize (w.alloc (.cells #[.slice pa na ca,.slice pf nf cf] 41)).alloc (.cells #[.slice none 0 0,.slice none 0 0] 41)=w1 at *
 have x0:w1.cell? ⟨w.heap.size,0,none⟩=some (.slice pa na ca):=aa S0.s0 0
 have x1:w1.cell? ⟨w.heap.size,1,none⟩=some (.slice pf nf cf):=aa S0.s0 1
 go_wp2_with fail
 refine (uU pa na ca pf nf cf al fl w1 S0.ia S0.jf hqa hqf (by omega) (by omega)).mono ?_
 rintro e w2 ⟨u1,u2,rfl,hL,hb2⟩
 have r0:=(hb2.block _ (ac S0.s0)).trans S0.s0
 have r1:=(hb2.block _ (ac S0.s1)).trans S0.s1
 have HB2:=S0.bl.trans (hb2.mono S0.bl.size)
 have hz1:=S0.bl.size
 obtain ⟨ga,c1,rfl,hga,hgaw⟩:=hL.a.some (by omega)
 obtain ⟨gf,c2,rfl,hgf2,hgfw⟩:=hL.f.some (by omega)
 have hs1:=ac S0.s1
 clear S0 x0 x1 hb2
 have y0:=aa r0 0
 have y1:=aa r0 1
 have f0:=frozen_of_row w2 w.heap.size 0 _ _ r0
 have f1:=frozen_of_row w2 w.heap.size 1 _ _ r0
 have HP:ez w2 (bY w2 w.heap.size (.slice (some ⟨ga,0,none⟩) al.length c1) (.slice (some ⟨gf,0,none⟩) fl.length c2)) w.heap.size _ #[.slice (some ⟨ga,0,none⟩) al.length c1,.slice (some ⟨gf,0,none⟩) fl.length c2]:=aV r0
 have hL3:=hL.put (u1:=.slice (some ⟨ga,0,none⟩) al.length c1) (u2:=.slice (some ⟨gf,0,none⟩) fl.length c2) r0 (by decide)
 have hB3:=HB2.trans (HP.below w.heap.size (by omega))
 have t0:=HP.row
 have t1:=(HP.other (w.heap.size+1) (by omega)).trans r1
 clear HB2 hL r0 r1
 go_upto_region 2 with fail
 change _ at *
 generalize hw3:bY w2 w.heap.size (.slice (some ⟨ga,0,none⟩) al.length c1) (.slice (some ⟨gf,0,none⟩) fl.length c2)=w3 at *
 unfold bY at hw3
 rw [hw3]
 clear hw3 HP y0 y1 f0 f1
 have y0:=aa t0 0
 have y1:=aa t0 1
 obtain ⟨za,hza⟩:∃ z,al[g]?=some z:=⟨_,C1 hg⟩
 obtain ⟨zf,hzf⟩:∃ z,fl[g]?=some z:=⟨_,C1 hgf⟩
 have HZ:=CX (And.intro hza hzf)
 have hgI:(g:Int)<(al.length:Int):=by omega
 have hgJ:(g:Int)<(fl.length:Int):=by omega
 clear hza hzf
 go_quiet (fail)
 obtain ⟨w4,hw4⟩:∃ x,x=w3.drewN nq:=⟨_,rfl⟩
 have hL4:cF w1.heap.size w4 (.slice (some ⟨ga,0,none⟩) al.length c1) (.slice (some ⟨gf,0,none⟩) fl.length c2) al fl:=by rw [hw4];exact hL3.below (below_drewN (Below.refl _ _) _)
 have hB4:Below w.heap.size w w4:=by rw [hw4];exact below_drewN hB3 _
 have k0:w4.heap[w.heap.size]?=some (.cells #[.slice (some ⟨ga,0,none⟩) al.length c1,.slice (some ⟨gf,0,none⟩) fl.length c2] 41 (0,0)):=by rw [hw4];exact t0
 have k1:w4.heap[w.heap.size+1]?=some (.cells #[.slice none 0 0,.slice none 0 0] 41 (0,0)):=by rw [hw4];exact t1
 rw [←hw4]
 clear hw4 t0 t1 hL3 hB3 y0 y1
 have c3:=hL4.a.cellAt HZ.out.1
 have f3:=hL4.a.frozenAt g
 have hL5:=hL4.setA g k
 have hB5:Below w.heap.size w (w4.setCell ⟨ga,g,none⟩ (.int .i64 k)):=hB4.setCell (p:=⟨ga,g,none⟩) (by show w.heap.size≤ga;omega) _
 have k0':(w4.setCell ⟨ga,g,none⟩ (.int .i64 k)).heap[w.heap.size]?=some (.cells #[.slice (some ⟨ga,0,none⟩) al.length c1,.slice (some ⟨gf,0,none⟩) fl.length c2] 41 (0,0)):=(heap_setCell_other _ _ _ _ (by show w.heap.size≠ga;omega)).trans k0
 have k1':(w4.setCell ⟨ga,g,none⟩ (.int .i64 k)).heap[w.heap.size+1]?=some (.cells #[.slice none 0 0,.slice none 0 0] 41 (0,0)):=(heap_setCell_other _ _ _ _ (by show w.heap.size+1≠ga;omega)).trans k1
 clear hL4 hB4 k0 k1
 go_upto_region 4 with fail
 clear c3 f3
 generalize w4.setCell ⟨ga,g,none⟩ (.int .i64 k)=w5 at *
 have c4:=hL5.f.cellAt HZ.out.2
 have f4:=hL5.f.frozenAt g
 have hL6:=hL5.setF g 0
 have hB6:Below w.heap.size w (w5.setCell ⟨gf,g,none⟩ (.int .i64 0)):=hB5.setCell (p:=⟨gf,g,none⟩) (by show w.heap.size≤gf;omega) _
 have k0:(w5.setCell ⟨gf,g,none⟩ (.int .i64 0)).heap[w.heap.size]?=some (.cells #[.slice (some ⟨ga,0,none⟩) al.length c1,.slice (some ⟨gf,0,none⟩) fl.length c2] 41 (0,0)):=(heap_setCell_other _ _ _ _ (by show w.heap.size≠gf;omega)).trans k0'
 have k1:(w5.setCell ⟨gf,g,none⟩ (.int .i64 0)).heap[w.heap.size+1]?=some (.cells #[.slice none 0 0,.slice none 0 0] 41 (0,0)):=(heap_setCell_other _ _ _ _ (by show w.heap.size+1≠gf;omega)).trans k1'
 clear hL5 hB5 k0' k1'
 go_upto_region 5 with fail
 clear c4 f4
 generalize w5.setCell ⟨gf,g,none⟩ (.int .i64 0)=w6 at *
 have y0:=aa k0 0
 have y1:=aa k0 1
 have z0:=aa k1 0
 have z1:=aa k1 1
 have f0:=frozen_of_row w6 (w.heap.size+1) 0 _ _ k1
 have f1:=frozen_of_row w6 (w.heap.size+1) 1 _ _ k1
 have HP:ez w6 (bY w6 (w.heap.size+1) (.slice (some ⟨ga,0,none⟩) al.length c1) (.slice (some ⟨gf,0,none⟩) fl.length c2)) (w.heap.size+1) _ #[.slice (some ⟨ga,0,none⟩) al.length c1,.slice (some ⟨gf,0,none⟩) fl.length c2]:=aV k1
 have HL:=CX (hL6.put (u1:=.slice (some ⟨ga,0,none⟩) al.length c1) (u2:=.slice (some ⟨gf,0,none⟩) fl.length c2) k1 (by decide))
 have HB:=hB6.trans (HP.below w.heap.size (by omega))
 go_wp2_with fail
 (try simp only [Exit.inBlock,Exit.then])
 refine bodyPost_ret (results_cell_row rfl _ _ (w.heap.size+1) _ _ (0,0) _ rfl HP.row Tryz.underlying41 rfl (by kernel_rfl)) rfl ?_
 exact ⟨_,_,rfl,HL.out.base hz1,HB⟩
end Go.Proofs.YtnkgbocdpngldaaGreatDoor
