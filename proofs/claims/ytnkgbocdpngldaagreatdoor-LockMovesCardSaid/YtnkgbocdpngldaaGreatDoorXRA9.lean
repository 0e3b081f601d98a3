/- Lemmas of this claim. -/
import Derived.Laws.AppendOwnNone
import Derived.Test.YtnkgbocdpngldaaGreatDoorXMach
import Derived.Test.YtnkgbocdpngldaaGreatDoorXSta3
import Derived.Test.YtnkgbocdpngldaaGreatDoorXHel1
set_option linter.all false
set_option maxRecDepth 100000
set_option maxHeartbeats 8000000
namespace Go.Proofs.YtnkgbocdpngldaaGreatDoor
open Go.RowKit Dc Dg
theorem aJ.setType {B:Nat}{w:World}{v:Value}{l:List Int} (h:aJ B w v l) {b i:Nat} (u:Value) {cs:Array Value}{t:TypeId} (hb:w.heap[b]?=some (.cells cs t (0,0))) (ht:t≠3):aJ B (w.setCell ⟨b,i,none⟩ u) v l :=
 h.same (fun k hk=>by
  obtain⟨_,_,cur,h2⟩:=av h hk
  refine heap_setCell_other _ _ _ _ (fun e=>?_)
  subst e
  rw[hb] at h2
  cases h2
  exact ht rfl)
theorem aJ.n {B:Nat}{w:World}{p:Option Addr}{n c:Nat}{l:List Int} (h:aJ B w (.slice p n c) l):n=l.length:=by
 obtain⟨a,c',e⟩:=h.slice
 simp only[Value.slice.injEq] at e
 exact e.2.1
theorem aJ.stored {B:Nat}{w:World}{g n c:Nat}{l:List Int} (h:aJ B w (.slice (some ⟨g,0,none⟩) n c) l) (j:Nat) (z:Int):aJ B (w.setCell ⟨g,j,none⟩ (.int .i64 z)) (.slice (some ⟨g,0,none⟩) n c) (l.set j z):=by
 obtain rfl:=h.n
 have:=(World.ownsRow.stored h j (.int .i64 z)).1
 unfold aJ
 rw[List.map_set,DX]
 exact this
theorem aJ.cellAt {B:Nat}{w:World}{g n c:Nat}{l:List Int} (h:aJ B w (.slice (some ⟨g,0,none⟩) n c) l) {j:Nat}{z:Int} (hj:l[j]?=some z):w.cell? ⟨g,j,none⟩=some (.int .i64 z):=by
 have hjl:=(De.1 hj).1
 obtain rfl:=h.n
 rw[World.ownsRow.cellAt h j (by omega),Ef,hj];rfl
theorem aJ.frozenAt {B:Nat}{w:World}{g n c:Nat}{l:List Int} (h:aJ B w (.slice (some ⟨g,0,none⟩) n c) l) (j:Nat):w.frozen? ⟨g,j,none⟩=false:=by
 obtain rfl:=h.n
 exact World.ownsRow.frozenAt h j
theorem aJ.some {B:Nat}{w:World}{v:Value}{l:List Int} (h:aJ B w v l) (hl:0<l.length):∃ g c,v=.slice (Option.some ⟨g,0,none⟩) l.length c∧B≤g∧g<w.heap.size:=by
 rcases h.2 with ⟨rfl,hn⟩ | ⟨g,cap,cur,rfl,hb,hg,_⟩
 ·omega
 ·exact⟨g,cap,rfl,hb,ae hg⟩
theorem aJ.nil (B:Nat) (w:World):aJ B w (.slice none 0 0) []:=World.ownsRow_nil _ _ _ _
structure cZ (B:Nat) (w:World) (u1 u2:Value) (al fl:List Int):Prop where
 a:aJ B w u1 al
 f:aJ B w u2 fl
 ap:∀ k,u1.ownBlock=some k→u2.ownBlock≠some k
theorem cZ.below {B:Nat}{w w':World}{u1 u2:Value}{al fl:List Int} (h:cZ B w u1 u2 al fl) (hb:Below w.heap.size w w'):cZ B w' u1 u2 al fl:=⟨h.a.below hb,h.f.below hb,h.ap⟩
theorem cZ.base {B B':Nat}{w:World}{u1 u2:Value}{al fl:List Int} (h:cZ B w u1 u2 al fl) (hb:B'≤B):cZ B' w u1 u2 al fl:=⟨h.a.base hb,h.f.base hb,h.ap⟩
theorem cZ.put {B:Nat}{w:World}{v1 v2:Value}{al fl:List Int} (h:cZ B w v1 v2 al fl) {b:Nat}{u1 u2:Value}{cs:Array Value}{t:TypeId} (hb:w.heap[b]?=some (.cells cs t (0,0))) (ht:t≠3):cZ B (bB w b u1 u2) v1 v2 al fl:=by
 have h2:(w.setCell ⟨b,0,none⟩ u1).heap[b]?=some (.cells (cs.setIfInBounds 0 u1) t (0,0)):=heap_setCell_same w b 0 _ _ u1 hb
 exact⟨(h.a.setType _ hb ht).setType _ h2 ht,(h.f.setType _ hb ht).setType _ h2 ht,h.ap⟩
theorem cZ.setA {B:Nat}{w:World}{g n c:Nat}{u2:Value}{al fl:List Int} (h:cZ B w (.slice (some ⟨g,0,none⟩) n c) u2 al fl) (j:Nat) (z:Int):cZ B (w.setCell ⟨g,j,none⟩ (.int .i64 z)) (.slice (some ⟨g,0,none⟩) n c) u2 (al.set j z) fl :=
 ⟨h.a.stored j z,h.f.same (fun k hk=>heap_setCell_other _ _ _ _ (fun e=>h.ap g rfl (by rw[show k=g from e] at hk;exact hk))),h.ap⟩
theorem cZ.setF {B:Nat}{w:World}{g n c:Nat}{u1:Value}{al fl:List Int} (h:cZ B w u1 (.slice (some ⟨g,0,none⟩) n c) al fl) (j:Nat) (z:Int):cZ B (w.setCell ⟨g,j,none⟩ (.int .i64 z)) u1 (.slice (some ⟨g,0,none⟩) n c) al (fl.set j z) :=
 ⟨h.a.same (fun k hk=>heap_setCell_other _ _ _ _ (fun e=>h.ap k hk (by rw[show k=g from e];rfl))),h.f.stored j z,h.ap⟩
theorem l_ (q:Option Addr) (n c:Nat) (l:List Int) (w:World) (hl:aN w (.slice q n c) l) (hq:q=none→c=0) (hn:l.length*8≤140737488351232) :
  Calls Tryz.prog 76 #[.slice q n c] w fun e w'=>∃ p d,e=.returned (.slice p l.length d)∧aJ w.heap.size w' (.slice p l.length d) l∧Below w.heap.size w w':=by
 obtain⟨i0,hi,hz0,hz1,hz2⟩:=info_parts yM
 obtain⟨p',c',e,hc⟩:=hl.at_
 obtain⟨rfl,rfl,rfl⟩:q=p'∧n=l.length∧c=c':=by simpa using e
 have hown:w.ownsRow w.heap.size 3 1 (.slice none 0 0) 0 []:=World.ownsRow_nil _ _ _ _
 cases q with
 | none =>
  have h0:l.length=0:=by
   rcases DQ l.length with h | h
   ·exact h
   ·obtain⟨b,o,h2,_⟩:=hc h
    cases h2
  have hl0:l=[]:=Du h0
  subst hl0
  obtain rfl:=hq rfl
  clear hc hq hl hn
  go_enter Tryz.func76,Tryz.ntmps76
  go_wp2_with (at_builtin;refine wpList_append_own_none rfl _ _ 39 rfl w.heap.size 3 i0 1 Tryz.underlying39 hi _ 0 [] rfl hown rfl ?_)
  go_ret
  exact⟨none,0,rfl,aJ.nil _ _,Below.refl _ _⟩
 | some ad =>
  have H1:∀ j u,(l.map (Value.int .i64))[j]?=some u→w.cell? (ad.add j)=some u:=by
   intro j u hj
   have hjl:j<l.length:=by have:=(De.1 hj).1;simpa using this
   obtain⟨b,o,e2,_,hcl⟩:=hc (by omega)
   obtain rfl:=Option.some.inj e2
   rw[Ef,C7 hjl] at hj
   rw[←Option.some.inj hj,gp]
   exact hcl j hjl
  have H2:∀ u∈l.map (Value.int .i64),u.oneCell'=true:=by
   intro u hu
   obtain⟨d,_,rfl⟩:=DO.1 hu
   rfl
  have H3:0+l.length≤maxLen:=by unfold maxLen;omega
  have HH:=C5 (And.intro H1 (And.intro H2 H3))
  clear H1 H2 H3 hc hq hl
  go_enter Tryz.func76,Tryz.ntmps76
  go_wp2_with (at_builtin;refine wpList_append_own _ rfl _ _ 39 rfl w.heap.size 3 i0 (.int .i64 0) 1 8 Tryz.underlying39 hi hz0 hz1 hz2 rfl (by decide) _ 0 [] rfl hown ad l.length c (l.map (Value.int .i64)) rfl (by simp) HH.out.1 HH.out.2.1 HH.out.2.2 (by omega) (C6 _) ?_;intro v' w' hown' hg hv)
  rw[D5,D7] at hown'
  have HB:Below w.heap.size w w':=(Below.refl _ _).grown hg (C6 _) (fun k hk=>by cases hk)
  have HR:Hid (aJ w.heap.size w' v' l):=hown'
  clear hown' hg hv
  obtain⟨p2,d2,rfl⟩:=HR.out.slice
  go_wp2_with fail
  go_ret
  exact⟨p2,d2,rfl,HR.out,HB⟩
structure OwS (w0 w:World) (pa:Option Addr) (na ca:Nat) (pf:Option Addr) (nf cf:Nat) (al fl:List Int):Prop where
 s0:w.heap[w0.heap.size]?=some (.cells #[.slice pa na ca,.slice pf nf cf] 41 (0,0))
 s1:w.heap[w0.heap.size+1]?=some (.cells #[.slice none 0 0,.slice none 0 0] 41 (0,0))
 ia:aN w (.slice pa na ca) al
 jf:aN w (.slice pf nf cf) fl
 bl:Below w0.heap.size w0 w
theorem OwS.below {w0 w w':World}{pa:Option Addr}{na ca:Nat}{pf:Option Addr}{nf cf:Nat}{al fl:List Int} (h:OwS w0 w pa na ca pf nf cf al fl) (hb:Below w.heap.size w w'):OwS w0 w' pa na ca pf nf cf al fl :=
 ⟨(hb.block _ (ae h.s0)).trans h.s0,(hb.block _ (ae h.s1)).trans h.s1,h.ia.below hb,h.jf.below hb,h.bl.trans (hb.mono h.bl.size)⟩
theorem qC (pa:Option Addr) (na ca:Nat) (pf:Option Addr) (nf cf:Nat) (al fl:List Int) (w:World) (hA:aN w (.slice pa na ca) al) (hF:aN w (.slice pf nf cf) fl) (hqa:pa=none→ca=0) (hqf:pf=none→cf=0) (hla:al.length*8≤140737488351232) (hlf:fl.length*8≤140737488351232) :
  Calls Tryz.prog 37 #[.agg #[.slice pa na ca,.slice pf nf cf]] w fun e w'=>∃ u1 u2,e=.returned (.agg #[u1,u2])∧cZ w.heap.size w' u1 u2 al fl∧Below w.heap.size w w':=by
 have hl:=fS w (.cells #[.slice pa na ca,.slice pf nf cf] 41) (.cells #[.slice none 0 0,.slice none 0 0] 41)
 have S0:OwS w ((w.alloc (.cells #[.slice pa na ca,.slice pf nf cf] 41)).alloc (.cells #[.slice none 0 0,.slice none 0 0] 41)) pa na ca pf nf cf al fl:=⟨hl.s0,hl.s1,hA.below hl.below,hF.below hl.below,hl.below⟩
 have hS:=S0.below (below_drewN (Below.refl _ _) 1)
 clear hA hF hl S0
 go_enter Tryz.func37,Tryz.ntmps37
 go_upto_region 1 with fail
 generalize (w.alloc (.cells #[.slice pa na ca,.slice pf nf cf] 41)).alloc (.cells #[.slice none 0 0,.slice none 0 0] 41)=w1 at *
 refine wp_mono (au (Q:=aL _) (fun wx:World=>OwS w wx pa na ca pf nf cf al fl) (fun i=>i == 7) (by kernel_rfl) ?_) (fun _ _ _ h=>aV h)
 change OwS w w1.drew pa na ca pf nf cf al fl at hS
 generalize w1.drew=w2 at *
 refine af (i:=0) (v:=?vv1) rfl (by kernel_rfl) (fun _ _ _ h=>h) rfl ?hy1 ?rest1
 case hy1=>(intro wy;go_simp;try with_reducible rfl)
 try simp only[Act.put,C4,C2,C3,CY,C1,CZ]
 refine af (i:=3) (v:=?vv2) rfl (by kernel_rfl) (fun _ _ _ h=>h) rfl ?hy2 ?rest2
 case hy2=>(intro wy;go_simp;try with_reducible rfl)
 try simp only[Act.put,C4,C2,C3,CY,C1,CZ]
 refine ak (i:=1) (v:=?vvA) rfl (by kernel_rfl) (fun _ _ _ h=>h) rfl hS ?hyA ?restA
 case hyA =>
  intro wy hy
  have e0:=aa hy.s0 0;have e1:=aa hy.s0 1
  clear hy
  go_simp
  try with_reducible rfl
 try simp only[Act.put,C4,C2,C3,CY,C1,CZ]
 refine ak (i:=4) (v:=?vvB) rfl (by kernel_rfl) (fun _ _ _ h=>h) rfl hS ?hyB ?restB
 case hyB =>
  intro wy hy
  have e0:=aa hy.s0 0;have e1:=aa hy.s0 1
  clear hy
  go_simp
  try with_reducible rfl
 try simp only[Act.put,C4,C2,C3,CY,C1,CZ]
 refine am (i:=2) rfl (by kernel_rfl) rfl (fun K hK=>?_)
 go_simp
 refine (l_ _ _ _ _ _ hS.ia hqa hla).mono ?_
 rintro e w4 ⟨q1,d1,rfl,hI1,hb4⟩
 have hS4:=hS.below hb4
 refine hK _ _ (fun _ _=>hS4) ?_
 clear hK K
 try simp only[Act.put,C4,C2,C3,CY,C1,CZ]
 refine am (i:=5) rfl (by kernel_rfl) rfl (fun K hK=>?_)
 go_simp
 have hb2:=hS.bl.size
 clear hS
 have hS:=hS4
 clear hS4
 refine (l_ _ _ _ _ _ hS.jf hqf hlf).mono ?_
 rintro e w6 ⟨q2,d2,rfl,hI2,hb6⟩
 have hS6:=hS.below hb6
 have hL:cZ w.heap.size w6 (.slice q1 al.length d1) (.slice q2 fl.length d2) al fl:=⟨(hI1.below hb6).base hb2,hI2.base hS.bl.size,fun k h1 h2=>by
  have a1:=(av hI1 h1).2.1
  have a2:=(av hI2 h2).1
  omega⟩
 refine hK _ _ (fun _ _=>hS6) ?_
 clear hK K hS hI1 hI2 hb4 hb6 hb2
 have hS:=hS6
 clear hS6
 try simp only[Act.put,C4,C2,C3,CY,C1,CZ]
 refine af (i:=6) (v:=?vv3) rfl (by kernel_rfl) (fun _ _ _ h=>h) rfl ?hy3 ?rest3
 case hy3=>(intro wy;go_simp;try with_reducible rfl)
 try simp only[Act.put,C4,C2,C3,CY,C1,CZ]
 have hP:dR w6 (bB w6 (w.heap.size+1) (.slice q1 al.length d1) (.slice q2 fl.length d2)) (w.heap.size+1) _ #[.slice q1 al.length d1,.slice q2 fl.length d2]:=aO hS.s1
 have HL:=C5 (hL.put (u1:=.slice q1 al.length d1) (u2:=.slice q2 fl.length d2) hS.s1 (by decide))
 have hB:=hS.bl.trans (hP.below w.heap.size (by omega))
 have c0:=aa hS.s1 0
 have c1:=aa hS.s1 1
 have f0:=frozen_of_row w6 (w.heap.size+1) 0 _ _ hS.s1
 have f1:=frozen_of_row w6 (w.heap.size+1) 1 _ _ hS.s1
 clear hS hL
 refine am (i:=7) rfl (by kernel_rfl) rfl (fun K hK=>?_)
 go_simp
 change K _ (bB w6 (w.heap.size+1) (.slice q1 al.length d1) (.slice q2 fl.length d2))
 refine hK _ _ (fun h=>by cases h) ?_
 clear hK K c0 c1 f0 f1
 try simp only[Act.put,C4,C2,C3,CY,C1,CZ]
 refine aA (by kernel_rfl) ?_ _
 simp only[aL]
 go_wp2_with fail
 (try simp only[Exit.inBlock,Exit.then])
 refine bodyPost_ret (results_cell_row rfl _ _ (w.heap.size+1) _ _ (0,0) _ rfl hP.row Tryz.underlying41 rfl (by kernel_rfl)) rfl ?_
 exact⟨_,_,rfl,HL.out,hB⟩
theorem kP (pa:Option Addr) (na ca:Nat) (pf:Option Addr) (nf cf:Nat) (al fl:List Int) (g:Nat) (k:Int) (w:World) (hA:aN w (.slice pa na ca) al) (hF:aN w (.slice pf nf cf) fl) (hqa:pa=none→ca=0) (hqf:pf=none→cf=0) (hla:al.length≤1000) (hlf:fl.length≤1000) (hg:g<al.length) (hgf:g<fl.length) :
  Calls Tryz.prog 97 #[.agg #[.slice pa na ca,.slice pf nf cf],.int .i64 g,.int .i64 k] w fun e w'=>∃ u1 u2,e=.returned (.agg #[u1,u2])∧cZ w.heap.size w' u1 u2 (al.set g k) (fl.set g 0)∧Below w.heap.size w w':=by
 have hl:=fS w (.cells #[.slice pa na ca,.slice pf nf cf] 41) (.cells #[.slice none 0 0,.slice none 0 0] 41)
 have S0:OwS w ((w.alloc (.cells #[.slice pa na ca,.slice pf nf cf] 41)).alloc (.cells #[.slice none 0 0,.slice none 0 0] 41)) pa na ca pf nf cf al fl:=⟨hl.s0,hl.s1,hA.below hl.below,hF.below hl.below,hl.below⟩
 clear hA hF hl
 go_enter Tryz.func97,Tryz.ntmps97
 go_upto_region 1 with fail
 generalize (w.alloc (.cells #[.slice pa na ca,.slice pf nf cf] 41)).alloc (.cells #[.slice none 0 0,.slice none 0 0] 41)=w1 at *
 have x0:w1.cell? ⟨w.heap.size,0,none⟩=some (.slice pa na ca):=aa S0.s0 0
 have x1:w1.cell? ⟨w.heap.size,1,none⟩=some (.slice pf nf cf):=aa S0.s0 1
 go_wp2_with fail
 refine (qC pa na ca pf nf cf al fl w1 S0.ia S0.jf hqa hqf (by omega) (by omega)).mono ?_
 rintro e w2 ⟨u1,u2,rfl,hL,hb2⟩
 have r0:=(hb2.block _ (ae S0.s0)).trans S0.s0
 have r1:=(hb2.block _ (ae S0.s1)).trans S0.s1
 have HB2:=S0.bl.trans (hb2.mono S0.bl.size)
 have hz1:=S0.bl.size
 obtain⟨ga,c1,rfl,hga,hgaw⟩:=hL.a.some (by omega)
 obtain⟨gf,c2,rfl,hgf2,hgfw⟩:=hL.f.some (by omega)
 have hs1:=ae S0.s1
 clear S0 x0 x1 hb2
 have y0:=aa r0 0
 have y1:=aa r0 1
 have f0:=frozen_of_row w2 w.heap.size 0 _ _ r0
 have f1:=frozen_of_row w2 w.heap.size 1 _ _ r0
 have HP:dR w2 (bB w2 w.heap.size (.slice (some ⟨ga,0,none⟩) al.length c1) (.slice (some ⟨gf,0,none⟩) fl.length c2)) w.heap.size _ #[.slice (some ⟨ga,0,none⟩) al.length c1,.slice (some ⟨gf,0,none⟩) fl.length c2]:=aO r0
 have hL3:=hL.put (u1:=.slice (some ⟨ga,0,none⟩) al.length c1) (u2:=.slice (some ⟨gf,0,none⟩) fl.length c2) r0 (by decide)
 have hB3:=HB2.trans (HP.below w.heap.size (by omega))
 have t0:=HP.row
 have t1:=(HP.other (w.heap.size+1) (by omega)).trans r1
 clear HB2 hL r0 r1
 go_upto_region 2 with fail
 change _ at *
 generalize hw3:bB w2 w.heap.size (.slice (some ⟨ga,0,none⟩) al.length c1) (.slice (some ⟨gf,0,none⟩) fl.length c2)=w3 at *
 unfold bB at hw3
 rw[hw3]
 clear hw3 HP y0 y1 f0 f1
 have y0:=aa t0 0
 have y1:=aa t0 1
 obtain⟨za,hza⟩:∃ z,al[g]?=some z:=⟨_,C7 hg⟩
 obtain⟨zf,hzf⟩:∃ z,fl[g]?=some z:=⟨_,C7 hgf⟩
 have HZ:=C5 (And.intro hza hzf)
 have hgI:(g:Int)<(al.length:Int):=by omega
 have hgJ:(g:Int)<(fl.length:Int):=by omega
 clear hza hzf
 go_quiet (fail)
 obtain⟨w4,hw4⟩:∃ x,x=w3.drewN nq:=⟨_,rfl⟩
 have hL4:cZ w1.heap.size w4 (.slice (some ⟨ga,0,none⟩) al.length c1) (.slice (some ⟨gf,0,none⟩) fl.length c2) al fl:=by rw[hw4];exact hL3.below (below_drewN (Below.refl _ _) _)
 have hB4:Below w.heap.size w w4:=by rw[hw4];exact below_drewN hB3 _
 have k0:w4.heap[w.heap.size]?=some (.cells #[.slice (some ⟨ga,0,none⟩) al.length c1,.slice (some ⟨gf,0,none⟩) fl.length c2] 41 (0,0)):=by rw[hw4];exact t0
 have k1:w4.heap[w.heap.size+1]?=some (.cells #[.slice none 0 0,.slice none 0 0] 41 (0,0)):=by rw[hw4];exact t1
 rw[←hw4]
 clear hw4 t0 t1 hL3 hB3 y0 y1
 have c3:=hL4.a.cellAt HZ.out.1
 have f3:=hL4.a.frozenAt g
 have hL5:=hL4.setA g k
 have hB5:Below w.heap.size w (w4.setCell ⟨ga,g,none⟩ (.int .i64 k)):=hB4.setCell (p:=⟨ga,g,none⟩) (by show w.heap.size≤ga;omega) _
 have k0':(w4.setCell ⟨ga,g,none⟩ (.int .i64 k)).heap[w.heap.size]?=some (.cells #[.slice (some ⟨ga,0,none⟩) al.length c1,.slice (some ⟨gf,0,none⟩) fl.length c2] 41 (0,0)):=(heap_setCell_other _ _ _ _ (by show w.heap.size≠ga;omega)).trans k0
 have k1':(w4.setCell ⟨ga,g,none⟩ (.int .i64 k)).heap[w.heap.size+1]?=some (.cells #[.slice none 0 0,.slice none 0 0] 41 (0,0)):=(heap_setCell_other _ _ _ _ (by show w.heap.size+1≠ga;omega)).trans k1
 clear hL4 hB4 k0 k1
 go_upto_region 4 with fail
 clear c3 f3
 generalize w4.setCell ⟨ga,g,none⟩ (.int .i64 k)=w5 at *
 have c4:=hL5.f.cellAt HZ.out.2
 have f4:=hL5.f.frozenAt g
 have hL6:=hL5.setF g 0
 have hB6:Below w.heap.size w (w5.setCell ⟨gf,g,none⟩ (.int .i64 0)):=hB5.setCell (p:=⟨gf,g,none⟩) (by show w.heap.size≤gf;omega) _
 have k0:(w5.setCell ⟨gf,g,none⟩ (.int .i64 0)).heap[w.heap.size]?=some (.cells #[.slice (some ⟨ga,0,none⟩) al.length c1,.slice (some ⟨gf,0,none⟩) fl.length c2] 41 (0,0)):=(heap_setCell_other _ _ _ _ (by show w.heap.size≠gf;omega)).trans k0'
 have k1:(w5.setCell ⟨gf,g,none⟩ (.int .i64 0)).heap[w.heap.size+1]?=some (.cells #[.slice none 0 0,.slice none 0 0] 41 (0,0)):=(heap_setCell_other _ _ _ _ (by show w.heap.size+1≠gf;omega)).trans k1'
 clear hL5 hB5 k0' k1'
 go_upto_region 5 with fail
 clear c4 f4
 generalize w5.setCell ⟨gf,g,none⟩ (.int .i64 0)=w6 at *
 have y0:=aa k0 0
 have y1:=aa k0 1
 have z0:=aa k1 0
 have z1:=aa k1 1
 have f0:=frozen_of_row w6 (w.heap.size+1) 0 _ _ k1
 have f1:=frozen_of_row w6 (w.heap.size+1) 1 _ _ k1
 have HP:dR w6 (bB w6 (w.heap.size+1) (.slice (some ⟨ga,0,none⟩) al.length c1) (.slice (some ⟨gf,0,none⟩) fl.length c2)) (w.heap.size+1) _ #[.slice (some ⟨ga,0,none⟩) al.length c1,.slice (some ⟨gf,0,none⟩) fl.length c2]:=aO k1
 have HL:=C5 (hL6.put (u1:=.slice (some ⟨ga,0,none⟩) al.length c1) (u2:=.slice (some ⟨gf,0,none⟩) fl.length c2) k1 (by decide))
 have HB:=hB6.trans (HP.below w.heap.size (by omega))
 go_wp2_with fail
 (try simp only[Exit.inBlock,Exit.then])
 refine bodyPost_ret (results_cell_row rfl _ _ (w.heap.size+1) _ _ (0,0) _ rfl HP.row Tryz.underlying41 rfl (by kernel_rfl)) rfl ?_
 exact⟨_,_,rfl,HL.out.base hz1,HB⟩
theorem s_ {n:Nat} (hn:n≤3):atL n St.zero=List.replicate n 0:=by
 have:n=0∨n=1∨n=2∨n=3:=by omega
 rcases this with rfl | rfl | rfl | rfl<;>rfl
theorem ox {n:Nat} (hn:n≤3):aG n St.zero=List.replicate n 0:=by
 have:n=0∨n=1∨n=2∨n=3:=by omega
 rcases this with rfl | rfl | rfl | rfl<;>rfl
theorem jt {w:World}{o:Oper}{a:Act}{K:Act→World→Prop}{Q:Exit→Act→World→Prop} (l c:Operand) (hop:o.op=Op.makeSlice 39 l c) (n:Nat) (hl:a.eval l=.int .i64 n) (hc:a.eval c=.int .i64 n) (hn:n≤1000)
  (hK:∀ w',aJ w.heap.size w' (.slice (some ⟨w.heap.size,0,none⟩) n n) (List.replicate n 0)→Below w.heap.size w w'→K (a.put o.dst (.slice (some ⟨w.heap.size,0,none⟩) n n)) w'):o.wp Tryz.prog a w K Q:=by
 obtain⟨i0,hi,hz0,hz1,hz2⟩:=info_parts yM
 obtain⟨w',hrun,r1,r2⟩:=run_make_full (P:=Tryz.prog) w w.heap.size 39 3 i0 (.int .i64 0) 1 Tryz.underlying39 hi hz0 hz1 .i64 .i64 n (by rw[hz2];omega) (by unfold maxLen;omega) (C6 _)
 unfold Oper.wp
 simp[execOp,hop,hl,hc,hrun,Result.andThen]
 refine hK w' ?_ ((Below.refl _ _).grown r2 (C6 _) (fun k hk=>by cases hk))
 have e:(madeCells (Value.int .i64 0).cells (n*1)).toList=(List.replicate n (0:Int)).map (Value.int .i64):=by
  rw[Er];simp[Value.cells,toList_madeCells_one]
 rw[e] at r1
 unfold aJ
 rw[EO];exact r1
structure BgS (w0 w:World) (gs:List Gd) (p:Option Addr) (c:Nat):Prop where
 s0:w.heap[w0.heap.size]?=some (.cells #[.slice p gs.length c] 24 (0,0))
 s1:w.heap[w0.heap.size+1]?=some (.cells #[.slice none 0 0,.slice none 0 0] 41 (0,0))
 bl:Below w0.heap.size w0 w
theorem BgS.below {w0 w w':World}{gs:List Gd}{p:Option Addr}{c:Nat} (h:BgS w0 w gs p c) (hb:Below w.heap.size w w'):BgS w0 w' gs p c :=
 ⟨(hb.block _ (ae h.s0)).trans h.s0,(hb.block _ (ae h.s1)).trans h.s1,h.bl.trans (hb.mono h.bl.size)⟩
theorem vE (gs:List Gd) (p:Option Addr) (c:Nat) (w:World) (hn3:gs.length≤3) :
  Calls Tryz.prog 48 #[.agg #[.slice p gs.length c]] w fun e w'=>∃ u1 u2,e=.returned (.agg #[u1,u2])∧cZ w.heap.size w' u1 u2 (atL gs.length St.zero) (aG gs.length St.zero)∧Below w.heap.size w w':=by
 have hl:=fS w (.cells #[.slice p gs.length c] 24) (.cells #[.slice none 0 0,.slice none 0 0] 41)
 have S0:BgS w ((w.alloc (.cells #[.slice p gs.length c] 24)).alloc (.cells #[.slice none 0 0,.slice none 0 0] 41)) gs p c:=⟨hl.s0,hl.s1,hl.below⟩
 have hS:=S0.below (below_drewN (Below.refl _ _) 1)
 clear hl S0
 go_enter Tryz.func48,Tryz.ntmps48
 go_upto_region 1 with fail
 generalize (w.alloc (.cells #[.slice p gs.length c] 24)).alloc (.cells #[.slice none 0 0,.slice none 0 0] 41)=w1 at *
 refine wp_mono (au (Q:=aL _) (fun wx:World=>BgS w wx gs p c) (fun i=>i == 9) (by kernel_rfl) ?_) (fun _ _ _ h=>aV h)
 change BgS w w1.drew gs p c at hS
 generalize w1.drew=w2 at *
 refine af (i:=0) (v:=?vv1) rfl (by kernel_rfl) (fun _ _ _ h=>h) rfl ?hy1 ?rest1
 case hy1=>(intro wy;go_simp;try with_reducible rfl)
 try simp only[Act.put,C4,C2,C3,CY,C1,CZ]
 refine af (i:=4) (v:=?vv2) rfl (by kernel_rfl) (fun _ _ _ h=>h) rfl ?hy2 ?rest2
 case hy2=>(intro wy;go_simp;try with_reducible rfl)
 try simp only[Act.put,C4,C2,C3,CY,C1,CZ]
 refine ak (i:=1) (v:=?vvA) rfl (by kernel_rfl) (fun _ _ _ h=>h) rfl hS ?hyA ?restA
 case hyA =>
  intro wy hy
  have e0:=aa hy.s0 0
  clear hy
  go_simp
  try with_reducible rfl
 try simp only[Act.put,C4,C2,C3,CY,C1,CZ]
 refine ak (i:=5) (v:=?vvB) rfl (by kernel_rfl) (fun _ _ _ h=>h) rfl hS ?hyB ?restB
 case hyB =>
  intro wy hy
  have e0:=aa hy.s0 0
  clear hy
  go_simp
  try with_reducible rfl
 try simp only[Act.put,C4,C2,C3,CY,C1,CZ]
 refine af (i:=2) (v:=?vv3) rfl (by kernel_rfl) (fun _ _ _ h=>h) rfl ?hy3 ?rest3
 case hy3=>(intro wy;go_simp;try with_reducible rfl)
 try simp only[Act.put,C4,C2,C3,CY,C1,CZ]
 refine af (i:=6) (v:=?vv4) rfl (by kernel_rfl) (fun _ _ _ h=>h) rfl ?hy4 ?rest4
 case hy4=>(intro wy;go_simp;try with_reducible rfl)
 try simp only[Act.put,C4,C2,C3,CY,C1,CZ]
 refine jL (i:=3) (i':=7) rfl rfl (by kernel_rfl) rfl rfl (fun K hK=>?_) (fun K hK=>?_)
 ·refine jt _ _ rfl gs.length rfl rfl (by omega) ?_
  intro w4 hI1 hb4
  have hS4:=hS.below hb4
  refine hK _ _ (fun _ _=>hS4) ?_
  clear hK K
  try simp only[Act.put,C4,C2,C3,CY,C1,CZ]
  refine am (i:=7) rfl (by kernel_rfl) rfl (fun K hK=>?_)
  have hb2:=hS.bl.size
  clear hS
  have hS:=hS4
  clear hS4
  refine jt _ _ rfl gs.length rfl rfl (by omega) ?_
  intro w6 hI2 hb6
  have hS6:=hS.below hb6
  refine hK _ _ (fun _ _=>hS6) ?_
  clear hK K
  try simp only[Act.put,C4,C2,C3,CY,C1,CZ]
  have hL:cZ w.heap.size w6 (.slice (some ⟨w2.heap.size,0,none⟩) gs.length gs.length) (.slice (some ⟨w4.heap.size,0,none⟩) gs.length gs.length) (List.replicate gs.length 0) (List.replicate gs.length 0):=⟨(hI1.below hb6).base hb2,hI2.base hS.bl.size,fun k h1 h2=>by
   have a1:=(av hI1 h1).2.1
   have a2:=(av hI2 h2).1
   omega⟩
  clear hS hb4 hb6 hb2 hI1 hI2
  have hS:=hS6
  clear hS6
  refine af (i:=8) (v:=?vv5) rfl (by kernel_rfl) (fun _ _ _ h=>h) rfl ?hy5 ?rest5
  case hy5=>(intro wy;go_simp;try with_reducible rfl)
  try simp only[Act.put,C4,C2,C3,CY,C1,CZ]
  have hP:dR w6 (bB w6 (w.heap.size+1) (.slice (some ⟨w2.heap.size,0,none⟩) gs.length gs.length) (.slice (some ⟨w4.heap.size,0,none⟩) gs.length gs.length)) (w.heap.size+1) _ #[.slice (some ⟨w2.heap.size,0,none⟩) gs.length gs.length,.slice (some ⟨w4.heap.size,0,none⟩) gs.length gs.length]:=aO hS.s1
  have HL:=C5 (hL.put (u1:=.slice (some ⟨w2.heap.size,0,none⟩) gs.length gs.length) (u2:=.slice (some ⟨w4.heap.size,0,none⟩) gs.length gs.length) hS.s1 (by decide))
  have hB:=hS.bl.trans (hP.below w.heap.size (by omega))
  have c0:=aa hS.s1 0
  have c1:=aa hS.s1 1
  have f0:=frozen_of_row w6 (w.heap.size+1) 0 _ _ hS.s1
  have f1:=frozen_of_row w6 (w.heap.size+1) 1 _ _ hS.s1
  clear hS hL
  refine am (i:=9) rfl (by kernel_rfl) rfl (fun K hK=>?_)
  go_simp
  change K _ (bB w6 (w.heap.size+1) (.slice (some ⟨w2.heap.size,0,none⟩) gs.length gs.length) (.slice (some ⟨w4.heap.size,0,none⟩) gs.length gs.length))
  refine hK _ _ (fun h=>by cases h) ?_
  clear hK K c0 c1 f0 f1
  try simp only[Act.put,C4,C2,C3,CY,C1,CZ]
  refine aA (by kernel_rfl) ?_ _
  simp only[aL]
  go_wp2_with fail
  (try simp only[Exit.inBlock,Exit.then])
  refine bodyPost_ret (results_cell_row rfl _ _ (w.heap.size+1) _ _ (0,0) _ rfl hP.row Tryz.underlying41 rfl (by kernel_rfl)) rfl ?_
  exact⟨_,_,rfl,by rw[s_ hn3,ox hn3];exact HL.out,hB⟩
 ·refine jt _ _ rfl gs.length rfl rfl (by omega) ?_
  intro w4 hI1 hb4
  have hS4:=hS.below hb4
  refine hK _ _ (fun _ _=>hS4) ?_
  clear hK K
  try simp only[Act.put,C4,C2,C3,CY,C1,CZ]
  refine am (i:=3) rfl (by kernel_rfl) rfl (fun K hK=>?_)
  have hb2:=hS.bl.size
  clear hS
  have hS:=hS4
  clear hS4
  refine jt _ _ rfl gs.length rfl rfl (by omega) ?_
  intro w6 hI2 hb6
  have hS6:=hS.below hb6
  refine hK _ _ (fun _ _=>hS6) ?_
  clear hK K
  try simp only[Act.put,C4,C2,C3,CY,C1,CZ]
  have hL:cZ w.heap.size w6 (.slice (some ⟨w4.heap.size,0,none⟩) gs.length gs.length) (.slice (some ⟨w2.heap.size,0,none⟩) gs.length gs.length) (List.replicate gs.length 0) (List.replicate gs.length 0):=⟨hI2.base hS.bl.size,(hI1.below hb6).base hb2,fun k h1 h2=>by
   have a1:=(av hI2 h1).1
   have a2:=(av hI1 h2).2.1
   omega⟩
  clear hS hb4 hb6 hb2 hI1 hI2
  have hS:=hS6
  clear hS6
  refine af (i:=8) (v:=?vv6) rfl (by kernel_rfl) (fun _ _ _ h=>h) rfl ?hy6 ?rest6
  case hy6=>(intro wy;go_simp;try with_reducible rfl)
  try simp only[Act.put,C4,C2,C3,CY,C1,CZ]
  have hP:dR w6 (bB w6 (w.heap.size+1) (.slice (some ⟨w4.heap.size,0,none⟩) gs.length gs.length) (.slice (some ⟨w2.heap.size,0,none⟩) gs.length gs.length)) (w.heap.size+1) _ #[.slice (some ⟨w4.heap.size,0,none⟩) gs.length gs.length,.slice (some ⟨w2.heap.size,0,none⟩) gs.length gs.length]:=aO hS.s1
  have HL:=C5 (hL.put (u1:=.slice (some ⟨w4.heap.size,0,none⟩) gs.length gs.length) (u2:=.slice (some ⟨w2.heap.size,0,none⟩) gs.length gs.length) hS.s1 (by decide))
  have hB:=hS.bl.trans (hP.below w.heap.size (by omega))
  have c0:=aa hS.s1 0
  have c1:=aa hS.s1 1
  have f0:=frozen_of_row w6 (w.heap.size+1) 0 _ _ hS.s1
  have f1:=frozen_of_row w6 (w.heap.size+1) 1 _ _ hS.s1
  clear hS hL
  refine am (i:=9) rfl (by kernel_rfl) rfl (fun K hK=>?_)
  go_simp
  change K _ (bB w6 (w.heap.size+1) (.slice (some ⟨w4.heap.size,0,none⟩) gs.length gs.length) (.slice (some ⟨w2.heap.size,0,none⟩) gs.length gs.length))
  refine hK _ _ (fun h=>by cases h) ?_
  clear hK K c0 c1 f0 f1
  try simp only[Act.put,C4,C2,C3,CY,C1,CZ]
  refine aA (by kernel_rfl) ?_ _
  simp only[aL]
  go_wp2_with fail
  (try simp only[Exit.inBlock,Exit.then])
  refine bodyPost_ret (results_cell_row rfl _ _ (w.heap.size+1) _ _ (0,0) _ rfl hP.row Tryz.underlying41 rfl (by kernel_rfl)) rfl ?_
  exact⟨_,_,rfl,by rw[s_ hn3,ox hn3];exact HL.out,hB⟩
theorem cZ.r {B n:Nat}{w:World}{u1 u2:Value}{z:St} (h:cZ B w u1 u2 (atL n z) (aG n z)):uz B n w (.agg #[u1,u2]) z:=⟨u1,u2,rfl,h.a,h.f⟩
theorem xp (gs:List Gd) (p:Option Addr) (c:Nat) (w:World) (hP:d8 w p c gs) :
  Calls Tryz.prog 36 #[.agg #[.slice p gs.length c]] w (pR gs w):=by
 have hl:=fS w (.cells #[.slice p gs.length c] 24) (.cells #[.slice none 0 0,.slice none 0 0] 41)
 have S0:BgS w ((w.alloc (.cells #[.slice p gs.length c] 24)).alloc (.cells #[.slice none 0 0,.slice none 0 0] 41)) gs p c:=⟨hl.s0,hl.s1,hl.below⟩
 have P1:=hP.below hl.below
 clear hl hP
 go_enter Tryz.func36,Tryz.ntmps36
 go_upto_region 1 with fail
 generalize (w.alloc (.cells #[.slice p gs.length c] 24)).alloc (.cells #[.slice none 0 0,.slice none 0 0] 41)=w1 at *
 have x0:w1.cell? ⟨w.heap.size,0,none⟩=some (.slice p gs.length c):=aa S0.s0 0
 go_wp2_with fail
 refine (ls gs p c w1 P1.G P1.X P1.F).mono ?_
 rintro e w2 ⟨rfl,hb2⟩
 have S2:=S0.below hb2
 clear S0 hb2 x0 P1
 obtain⟨bs,hbs⟩:∃ b,b=aX gs:=⟨_,rfl⟩
 rw[←hbs]
 have HBS:=C5 hbs
 clear hbs
 have c0:=aa S2.s1 0
 have c1:=aa S2.s1 1
 have f0:=frozen_of_row w2 (w.heap.size+1) 0 _ _ S2.s1
 have f1:=frozen_of_row w2 (w.heap.size+1) 1 _ _ S2.s1
 cases bs
 ·rw[if_neg Dl]
  have hP:dR w2 (bB w2 (w.heap.size+1) (.slice none 0 0) (.slice none 0 0)) (w.heap.size+1) _ #[.slice none 0 0,.slice none 0 0]:=aO S2.s1
  have hB:=S2.bl.trans (hP.below w.heap.size (by omega))
  go_wp2_with fail
  all_goals
   change bodyPost _ _ _ _ _ (bB w2 (w.heap.size+1) (.slice none 0 0) (.slice none 0 0))
   clear c0 c1 f0 f1
   have r0:=aa hP.row 0
   have r1:=aa hP.row 1
   generalize bB w2 (w.heap.size+1) (.slice none 0 0) (.slice none 0 0)=W at *
   refine bodyPost_ret (v:=.tuple #[dF,.int .i64 40]) (by unfold dF;simp[results,Tryz.results36,go_sem,r0,r1]) rfl ?_
   exact⟨hB,Or.inl ⟨HBS.out.symm,rfl⟩⟩
 ·rw[if_pos rfl]
  obtain⟨hn1,hn3⟩:=a_ HBS.out.symm
  have x0:w2.cell? ⟨w.heap.size,0,none⟩=some (.slice p gs.length c):=aa S2.s0 0
  clear c0 c1 f0 f1
  go_wp2_with fail
  refine (vE gs p c w2 hn3).mono ?_
  rintro e w3 ⟨u1,u2,rfl,hL,hb3⟩
  have hz:=S2.bl.size
  have S3:=S2.below hb3
  obtain⟨q1,d1,rfl⟩:=hL.a.slice
  obtain⟨q2,d2,rfl⟩:=hL.f.slice
  clear S2 hb3 x0
  have c0:=aa S3.s1 0
  have c1:=aa S3.s1 1
  have f0:=frozen_of_row w3 (w.heap.size+1) 0 _ _ S3.s1
  have f1:=frozen_of_row w3 (w.heap.size+1) 1 _ _ S3.s1
  have hP:dR w3 (bB w3 (w.heap.size+1) (.slice q1 (atL gs.length St.zero).length d1) (.slice q2 (aG gs.length St.zero).length d2)) (w.heap.size+1) _ #[.slice q1 (atL gs.length St.zero).length d1,.slice q2 (aG gs.length St.zero).length d2]:=aO S3.s1
  have hL3:=hL.put (u1:=.slice q1 (atL gs.length St.zero).length d1) (u2:=.slice q2 (aG gs.length St.zero).length d2) S3.s1 (by decide)
  have hB:=S3.bl.trans (hP.below w.heap.size (by omega))
  clear hL
  go_wp2_with fail
  change bodyPost _ _ _ _ _ (bB w3 (w.heap.size+1) (.slice q1 (atL gs.length St.zero).length d1) (.slice q2 (aG gs.length St.zero).length d2))
  clear c0 c1 f0 f1
  have r0:=aa hP.row 0
  have r1:=aa hP.row 1
  generalize bB w3 (w.heap.size+1) (.slice q1 (atL gs.length St.zero).length d1) (.slice q2 (aG gs.length St.zero).length d2)=W at *
  refine bodyPost_ret (v:=.tuple #[.agg #[.slice q1 (atL gs.length St.zero).length d1,.slice q2 (aG gs.length St.zero).length d2],.int .i64 0]) (by simp[results,Tryz.results36,go_sem,r0,r1]) rfl ?_
  exact⟨hB,Or.inr ⟨HBS.out.symm,_,rfl,(hL3.base hz).r⟩⟩
theorem pT {n g:Nat} (hn:n≤3) (hg:g<n) (y:St) (k:Int):(atL n y).set g k=atL n (y.go g k):=by
 have h1:n=1∨n=2∨n=3:=by omega
 have h2:g=0∨g=1∨g=2:=by omega
 rcases h1 with rfl | rfl | rfl<;>rcases h2 with rfl | rfl | rfl<;>first | rfl | omega
theorem kK {n g:Nat} (hn:n≤3) (hg:g<n) (y:St) (k:Int):(aG n y).set g 0=aG n (y.go g k):=by
 have h1:n=1∨n=2∨n=3:=by omega
 have h2:g=0∨g=1∨g=2:=by omega
 rcases h1 with rfl | rfl | rfl<;>rcases h2 with rfl | rfl | rfl<;>first | rfl | omega
theorem tE {n g:Nat} (hn:n≤3) (hg:g<n) (y:St):(aG n y).set g (y.f g+1)=aG n (y.fail g):=by
 have h1:n=1∨n=2∨n=3:=by omega
 have h2:g=0∨g=1∨g=2:=by omega
 rcases h1 with rfl | rfl | rfl<;>rcases h2 with rfl | rfl | rfl<;>first | rfl | omega
theorem xR {n g:Nat} (hn:n≤3) (hg:g<n) (y:St):atL n y=atL n (y.fail g):=by
 have h1:n=1∨n=2∨n=3:=by omega
 have h2:g=0∨g=1∨g=2:=by omega
 rcases h1 with rfl | rfl | rfl<;>rcases h2 with rfl | rfl | rfl<;>first | rfl | omega
theorem o8 {n g:Nat} (hn:n≤3) (hg:g<n) (y:St):(aG n y)[g]?=some (y.f g):=kJ hn y hg
theorem xe {gs:List Gd} (hS:aX gs=true) {g:Nat} (hg:g<gs.length):aE (ag gs g) []<0:=by
 have hr:=bH (ag gs g) []
 rcases Int.lt_or_le (aE (ag gs g) []) 0 with h | h
 ·exact h
 ·exfalso
  obtain⟨k,hk⟩:∃ k:Nat,aE (ag gs g) []=(k:Int):=⟨(aE (ag gs g) []).toNat,by omega⟩
  obtain⟨hkl,he⟩:=nT hk
  have h1:=dT (bC hS hg) hkl
  unfold bN cS at h1
  simp only[Da] at h1
  have h2:=h1.1.1.1.1.1.1
  rw[kW hkl,he] at h2
  exact absurd h2 (by decide)
theorem si {gs:List Gd} (hS:aX gs=true) {g k:Nat} (hg:g<gs.length) (hk:k<(ag gs g).length):(aK gs g k).next.data.toList=[]↔(ah gs).next g k<0:=by
 have h1:(ah gs).next g k=aE (ag gs g) (aK gs g k).next.data.toList:=rfl
 rw[h1]
 constructor
 ·intro h
  rw[h];exact xe hS hg
 ·intro h
  have h2:=dT (bC hS hg) hk
  unfold bN at h2
  simp only[Da] at h2
  rcases (om.1 h2.1.1.2).1 with h3 | h3
  ·exact h3
  ·omega
theorem vU (gs:List Gd) (p:Option Addr) (c:Nat) (v:Ev) (w:World) (hn:gs.length≤1000000) :
  Calls Tryz.prog 77 #[.agg #[.slice p gs.length c],.agg #[.int .i64 v.g,.int .i64 v.k]] w fun e w'=>e=.returned (.bool (dG (ah gs) v))∧Below w.heap.size w w':=by
 have hl:=fS w (.cells #[.slice p gs.length c] 24) (.cells #[.int .i64 v.g,.int .i64 v.k] 53)
 have hO:dG (ah gs) v=((decide (0≤v.g)&&decide (v.g≤(gs.length:Int)-1))&&(decide (0≤v.k)&&decide (v.k≤2))):=rfl
 have HO:=C5 hO
 clear hO
 go_enter Tryz.func77,Tryz.ntmps77
 go_upto_region 1 with fail
 generalize (w.alloc (.cells #[.slice p gs.length c] 24)).alloc (.cells #[.int .i64 v.g,.int .i64 v.k] 53)=w1 at *
 have x0:w1.cell? ⟨w.heap.size,0,none⟩=some (.slice p gs.length c):=aa hl.s0 0
 have x1:w1.cell? ⟨w.heap.size+1,0,none⟩=some (.int .i64 v.g):=aa hl.s1 0
 have x2:w1.cell? ⟨w.heap.size+1,1,none⟩=some (.int .i64 v.k):=aa hl.s1 1
 have HB:=hl.below
 clear hl
 go_wp2_with fail
 refine (iS v.g 0 ((gs.length:Int)-1) w1).mono ?_
 rintro e w2 ⟨rfl,hw⟩
 obtain rfl:=hw.symm
 obtain⟨b1,hb1⟩:∃ b,b=(decide (0≤v.g)&&decide (v.g≤(gs.length:Int)-1)):=⟨_,rfl⟩
 rw[←hb1] at HO ⊢
 clear hb1
 cases b1
 ·go_wp2
  go_ret
  exact⟨by rw[HO.out];rfl,HB⟩
 ·go_wp2_with fail
  refine (iS v.k 0 2 w1).mono ?_
  rintro e w2 ⟨rfl,hw⟩
  obtain rfl:=hw.symm
  rw[Bool.true_and] at HO
  rw[←HO.out]
  clear HO
  obtain⟨b,hb⟩:∃ b,b=dG (ah gs) v:=⟨_,rfl⟩
  rw[←hb]
  have HB2:=C5 hb
  clear hb
  cases b <;>
  ·go_wp2
   go_ret
   exact⟨by rw[←HB2.out];rfl,HB⟩
end Go.Proofs.YtnkgbocdpngldaaGreatDoor
