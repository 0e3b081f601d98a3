/- Lemmas of this claim. -/
import Derived.Laws.AppendOwnNone
import Derived.Test.YtnkgbocdpngldaaGreatDoorWMach
import Derived.Test.YtnkgbocdpngldaaGreatDoorWSta3
import Derived.Test.YtnkgbocdpngldaaGreatDoorWRA5
set_option linter.all false
set_option maxRecDepth 100000
set_option maxHeartbeats 8000000
namespace Go.Proofs.YtnkgbocdpngldaaGreatDoor
open Go.RowKit Dc Dg
theorem aR.setType {B:Nat}{w:World}{v:Value}{l:List Int} (h:aR B w v l) {b i:Nat} (u:Value) {cs:Array Value}{t:TypeId} (hb:w.heap[b]?=some (.cells cs t (0,0))) (ht:t≠3):aR B (w.setCell ⟨b,i,none⟩ u) v l :=
 h.same (fun k hk=>by
  obtain⟨_,_,cur,h2⟩:=av h hk
  refine heap_setCell_other _ _ _ _ (fun e=>?_)
  subst e
  rw[hb] at h2
  cases h2
  exact ht rfl)
theorem aR.n {B:Nat}{w:World}{p:Option Addr}{n c:Nat}{l:List Int} (h:aR B w (.slice p n c) l):n=l.length:=by
 obtain⟨a,c',e⟩:=h.slice
 simp only[Value.slice.injEq] at e
 exact e.2.1
theorem aR.stored {B:Nat}{w:World}{g n c:Nat}{l:List Int} (h:aR B w (.slice (some ⟨g,0,none⟩) n c) l) (j:Nat) (z:Int):aR B (w.setCell ⟨g,j,none⟩ (.int .i64 z)) (.slice (some ⟨g,0,none⟩) n c) (l.set j z):=by
 obtain rfl:=h.n
 have:=(World.ownsRow.stored h j (.int .i64 z)).1
 unfold aR
 rw[List.map_set,Er]
 exact this
theorem aR.cellAt {B:Nat}{w:World}{g n c:Nat}{l:List Int} (h:aR B w (.slice (some ⟨g,0,none⟩) n c) l) {j:Nat}{z:Int} (hj:l[j]?=some z):w.cell? ⟨g,j,none⟩=some (.int .i64 z):=by
 have hjl:=(Du.1 hj).1
 obtain rfl:=h.n
 rw[World.ownsRow.cellAt h j (by omega),DN,hj];rfl
theorem aR.frozenAt {B:Nat}{w:World}{g n c:Nat}{l:List Int} (h:aR B w (.slice (some ⟨g,0,none⟩) n c) l) (j:Nat):w.frozen? ⟨g,j,none⟩=false:=by
 obtain rfl:=h.n
 exact World.ownsRow.frozenAt h j
theorem aR.some {B:Nat}{w:World}{v:Value}{l:List Int} (h:aR B w v l) (hl:0<l.length):∃ g c,v=.slice (Option.some ⟨g,0,none⟩) l.length c∧B≤g∧g<w.heap.size:=by
 rcases h.2 with ⟨rfl,hn⟩ | ⟨g,cap,cur,rfl,hb,hg,_⟩
 ·omega
 ·exact⟨g,cap,rfl,hb,ac hg⟩
theorem aR.nil (B:Nat) (w:World):aR B w (.slice none 0 0) []:=World.ownsRow_nil _ _ _ _
structure dp (B:Nat) (w:World) (u1 u2:Value) (al fl:List Int):Prop where
 a:aR B w u1 al
 f:aR B w u2 fl
 ap:∀ k,u1.ownBlock=some k→u2.ownBlock≠some k
theorem dp.below {B:Nat}{w w':World}{u1 u2:Value}{al fl:List Int} (h:dp B w u1 u2 al fl) (hb:Below w.heap.size w w'):dp B w' u1 u2 al fl:=⟨h.a.below hb,h.f.below hb,h.ap⟩
theorem dp.base {B B':Nat}{w:World}{u1 u2:Value}{al fl:List Int} (h:dp B w u1 u2 al fl) (hb:B'≤B):dp B' w u1 u2 al fl:=⟨h.a.base hb,h.f.base hb,h.ap⟩
theorem dp.put {B:Nat}{w:World}{v1 v2:Value}{al fl:List Int} (h:dp B w v1 v2 al fl) {b:Nat}{u1 u2:Value}{cs:Array Value}{t:TypeId} (hb:w.heap[b]?=some (.cells cs t (0,0))) (ht:t≠3):dp B (cH w b u1 u2) v1 v2 al fl:=by
 have h2:(w.setCell ⟨b,0,none⟩ u1).heap[b]?=some (.cells (cs.setIfInBounds 0 u1) t (0,0)):=heap_setCell_same w b 0 _ _ u1 hb
 exact⟨(h.a.setType _ hb ht).setType _ h2 ht,(h.f.setType _ hb ht).setType _ h2 ht,h.ap⟩
theorem dp.setA {B:Nat}{w:World}{g n c:Nat}{u2:Value}{al fl:List Int} (h:dp B w (.slice (some ⟨g,0,none⟩) n c) u2 al fl) (j:Nat) (z:Int):dp B (w.setCell ⟨g,j,none⟩ (.int .i64 z)) (.slice (some ⟨g,0,none⟩) n c) u2 (al.set j z) fl :=
 ⟨h.a.stored j z,h.f.same (fun k hk=>heap_setCell_other _ _ _ _ (fun e=>h.ap g rfl (by rw[show k=g from e] at hk;exact hk))),h.ap⟩
theorem dp.setF {B:Nat}{w:World}{g n c:Nat}{u1:Value}{al fl:List Int} (h:dp B w u1 (.slice (some ⟨g,0,none⟩) n c) al fl) (j:Nat) (z:Int):dp B (w.setCell ⟨g,j,none⟩ (.int .i64 z)) u1 (.slice (some ⟨g,0,none⟩) n c) al (fl.set j z) :=
 ⟨h.a.same (fun k hk=>heap_setCell_other _ _ _ _ (fun e=>h.ap k hk (by rw[show k=g from e];rfl))),h.f.stored j z,h.ap⟩
theorem mv (q:Option Addr) (n c:Nat) (l:List Int) (w:World) (hl:aU w (.slice q n c) l) (hq:q=none→c=0) (hn:l.length*8≤140737488351232) :
  Calls Tryz.prog 76 #[.slice q n c] w fun e w'=>∃ p d,e=.returned (.slice p l.length d)∧aR w.heap.size w' (.slice p l.length d) l∧Below w.heap.size w w':=by
 obtain⟨i0,hi,hz0,hz1,hz2⟩:=info_parts BP
 obtain⟨p',c',e,hc⟩:=hl.at_
 obtain⟨rfl,rfl,rfl⟩:q=p'∧n=l.length∧c=c':=by simpa using e
 have hown:w.ownsRow w.heap.size 3 1 (.slice none 0 0) 0 []:=World.ownsRow_nil _ _ _ _
 cases q with
 | none =>
  have h0:l.length=0:=by
   rcases En l.length with h | h
   ·exact h
   ·obtain⟨b,o,h2,_⟩:=hc h
    cases h2
  have hl0:l=[]:=DQ h0
  subst hl0
  obtain rfl:=hq rfl
  clear hc hq hl hn
  go_enter Tryz.func76,Tryz.ntmps76
  go_wp2_with (at_builtin;refine wpList_append_own_none rfl _ _ 39 rfl w.heap.size 3 i0 1 Tryz.underlying39 hi _ 0 [] rfl hown rfl ?_)
  go_ret
  exact⟨none,0,rfl,aR.nil _ _,Below.refl _ _⟩
 | some ad =>
  have H1:∀ j u,(l.map (Value.int .i64))[j]?=some u→w.cell? (ad.add j)=some u:=by
   intro j u hj
   have hjl:j<l.length:=by have:=(Du.1 hj).1;simpa using this
   obtain⟨b,o,e2,_,hcl⟩:=hc (by omega)
   obtain rfl:=Option.some.inj e2
   rw[DN,Dq hjl] at hj
   rw[←Option.some.inj hj,jx]
   exact hcl j hjl
  have H2:∀ u∈l.map (Value.int .i64),u.oneCell'=true:=by
   intro u hu
   obtain⟨d,_,rfl⟩:=DY.1 hu
   rfl
  have H3:0+l.length≤maxLen:=by unfold maxLen;omega
  have HH:=Do (And.intro H1 (And.intro H2 H3))
  clear H1 H2 H3 hc hq hl
  go_enter Tryz.func76,Tryz.ntmps76
  go_wp2_with (at_builtin;refine wpList_append_own _ rfl _ _ 39 rfl w.heap.size 3 i0 (.int .i64 0) 1 8 Tryz.underlying39 hi hz0 hz1 hz2 rfl (by decide) _ 0 [] rfl hown ad l.length c (l.map (Value.int .i64)) rfl (by simp) HH.out.1 HH.out.2.1 HH.out.2.2 (by omega) (Dp _) ?_;intro v' w' hown' hg hv)
  rw[Eg,Es] at hown'
  have HB:Below w.heap.size w w':=(Below.refl _ _).grown hg (Dp _) (fun k hk=>by cases hk)
  have HR:Hid (aR w.heap.size w' v' l):=hown'
  clear hown' hg hv
  obtain⟨p2,d2,rfl⟩:=HR.out.slice
  go_wp2_with fail
  go_ret
  exact⟨p2,d2,rfl,HR.out,HB⟩
structure OwS (w0 w:World) (pa:Option Addr) (na ca:Nat) (pf:Option Addr) (nf cf:Nat) (al fl:List Int):Prop where
 s0:w.heap[w0.heap.size]?=some (.cells #[.slice pa na ca,.slice pf nf cf] 41 (0,0))
 s1:w.heap[w0.heap.size+1]?=some (.cells #[.slice none 0 0,.slice none 0 0] 41 (0,0))
 ia:aU w (.slice pa na ca) al
 jf:aU w (.slice pf nf cf) fl
 bl:Below w0.heap.size w0 w
theorem OwS.below {w0 w w':World}{pa:Option Addr}{na ca:Nat}{pf:Option Addr}{nf cf:Nat}{al fl:List Int} (h:OwS w0 w pa na ca pf nf cf al fl) (hb:Below w.heap.size w w'):OwS w0 w' pa na ca pf nf cf al fl :=
 ⟨(hb.block _ (ac h.s0)).trans h.s0,(hb.block _ (ac h.s1)).trans h.s1,h.ia.below hb,h.jf.below hb,h.bl.trans (hb.mono h.bl.size)⟩
theorem vD (pa:Option Addr) (na ca:Nat) (pf:Option Addr) (nf cf:Nat) (al fl:List Int) (w:World) (hA:aU w (.slice pa na ca) al) (hF:aU w (.slice pf nf cf) fl) (hqa:pa=none→ca=0) (hqf:pf=none→cf=0) (hla:al.length*8≤140737488351232) (hlf:fl.length*8≤140737488351232) :
  Calls Tryz.prog 37 #[.agg #[.slice pa na ca,.slice pf nf cf]] w fun e w'=>∃ u1 u2,e=.returned (.agg #[u1,u2])∧dp w.heap.size w' u1 u2 al fl∧Below w.heap.size w w':=by
 have hl:=j_ w (.cells #[.slice pa na ca,.slice pf nf cf] 41) (.cells #[.slice none 0 0,.slice none 0 0] 41)
 have S0:OwS w ((w.alloc (.cells #[.slice pa na ca,.slice pf nf cf] 41)).alloc (.cells #[.slice none 0 0,.slice none 0 0] 41)) pa na ca pf nf cf al fl:=⟨hl.s0,hl.s1,hA.below hl.below,hF.below hl.below,hl.below⟩
 have hS:=S0.below (below_drewN (Below.refl _ _) 1)
 clear hA hF hl S0
 go_enter Tryz.func37,Tryz.ntmps37
 go_upto_region 1 with fail
 generalize (w.alloc (.cells #[.slice pa na ca,.slice pf nf cf] 41)).alloc (.cells #[.slice none 0 0,.slice none 0 0] 41)=w1 at *
 refine wp_mono (au (Q:=aK _) (fun wx:World=>OwS w wx pa na ca pf nf cf al fl) (fun i=>i == 7) (by kernel_rfl) ?_) (fun _ _ _ h=>aN h)
 change OwS w w1.drew pa na ca pf nf cf al fl at hS
 generalize w1.drew=w2 at *
 refine ae (i:=0) (v:=?vv1) rfl (by kernel_rfl) (fun _ _ _ h=>h) rfl ?hy1 ?rest1
 case hy1=>(intro wy;go_simp;try with_reducible rfl)
 try simp only[Act.put,Dn,Dl,Dm,Di,Dk,Dj]
 refine ae (i:=3) (v:=?vv2) rfl (by kernel_rfl) (fun _ _ _ h=>h) rfl ?hy2 ?rest2
 case hy2=>(intro wy;go_simp;try with_reducible rfl)
 try simp only[Act.put,Dn,Dl,Dm,Di,Dk,Dj]
 refine ak (i:=1) (v:=?vvA) rfl (by kernel_rfl) (fun _ _ _ h=>h) rfl hS ?hyA ?restA
 case hyA =>
  intro wy hy
  have e0:=aa hy.s0 0;have e1:=aa hy.s0 1
  clear hy
  go_simp
  try with_reducible rfl
 try simp only[Act.put,Dn,Dl,Dm,Di,Dk,Dj]
 refine ak (i:=4) (v:=?vvB) rfl (by kernel_rfl) (fun _ _ _ h=>h) rfl hS ?hyB ?restB
 case hyB =>
  intro wy hy
  have e0:=aa hy.s0 0;have e1:=aa hy.s0 1
  clear hy
  go_simp
  try with_reducible rfl
 try simp only[Act.put,Dn,Dl,Dm,Di,Dk,Dj]
 refine am (i:=2) rfl (by kernel_rfl) rfl (fun K hK=>?_)
 go_simp
 refine (mv _ _ _ _ _ hS.ia hqa hla).mono ?_
 rintro e w4 ⟨q1,d1,rfl,hI1,hb4⟩
 have hS4:=hS.below hb4
 refine hK _ _ (fun _ _=>hS4) ?_
 clear hK K
 try simp only[Act.put,Dn,Dl,Dm,Di,Dk,Dj]
 refine am (i:=5) rfl (by kernel_rfl) rfl (fun K hK=>?_)
 go_simp
 have hb2:=hS.bl.size
 clear hS
 have hS:=hS4
 clear hS4
 refine (mv _ _ _ _ _ hS.jf hqf hlf).mono ?_
 rintro e w6 ⟨q2,d2,rfl,hI2,hb6⟩
 have hS6:=hS.below hb6
 have hL:dp w.heap.size w6 (.slice q1 al.length d1) (.slice q2 fl.length d2) al fl:=⟨(hI1.below hb6).base hb2,hI2.base hS.bl.size,fun k h1 h2=>by
  have a1:=(av hI1 h1).2.1
  have a2:=(av hI2 h2).1
  omega⟩
 refine hK _ _ (fun _ _=>hS6) ?_
 clear hK K hS hI1 hI2 hb4 hb6 hb2
 have hS:=hS6
 clear hS6
 try simp only[Act.put,Dn,Dl,Dm,Di,Dk,Dj]
 refine ae (i:=6) (v:=?vv3) rfl (by kernel_rfl) (fun _ _ _ h=>h) rfl ?hy3 ?rest3
 case hy3=>(intro wy;go_simp;try with_reducible rfl)
 try simp only[Act.put,Dn,Dl,Dm,Di,Dk,Dj]
 have hP:eZ w6 (cH w6 (w.heap.size+1) (.slice q1 al.length d1) (.slice q2 fl.length d2)) (w.heap.size+1) _ #[.slice q1 al.length d1,.slice q2 fl.length d2]:=bc hS.s1
 have HL:=Do (hL.put (u1:=.slice q1 al.length d1) (u2:=.slice q2 fl.length d2) hS.s1 (by decide))
 have hB:=hS.bl.trans (hP.below w.heap.size (by omega))
 have c0:=aa hS.s1 0
 have c1:=aa hS.s1 1
 have f0:=frozen_of_row w6 (w.heap.size+1) 0 _ _ hS.s1
 have f1:=frozen_of_row w6 (w.heap.size+1) 1 _ _ hS.s1
 clear hS hL
 refine am (i:=7) rfl (by kernel_rfl) rfl (fun K hK=>?_)
 go_simp
 change K _ (cH w6 (w.heap.size+1) (.slice q1 al.length d1) (.slice q2 fl.length d2))
 refine hK _ _ (fun h=>by cases h) ?_
 clear hK K c0 c1 f0 f1
 try simp only[Act.put,Dn,Dl,Dm,Di,Dk,Dj]
 refine aA (by kernel_rfl) ?_ _
 simp only[aK]
 go_wp2_with fail
 (try simp only[Exit.inBlock,Exit.then])
 refine bodyPost_ret (results_cell_row rfl _ _ (w.heap.size+1) _ _ (0,0) _ rfl hP.row Tryz.underlying41 rfl (by kernel_rfl)) rfl ?_
 exact⟨_,_,rfl,HL.out,hB⟩
theorem kV (pa:Option Addr) (na ca:Nat) (pf:Option Addr) (nf cf:Nat) (al fl:List Int) (g:Nat) (k:Int) (w:World) (hA:aU w (.slice pa na ca) al) (hF:aU w (.slice pf nf cf) fl) (hqa:pa=none→ca=0) (hqf:pf=none→cf=0) (hla:al.length≤1000) (hlf:fl.length≤1000) (hg:g<al.length) (hgf:g<fl.length) :
  Calls Tryz.prog 97 #[.agg #[.slice pa na ca,.slice pf nf cf],.int .i64 g,.int .i64 k] w fun e w'=>∃ u1 u2,e=.returned (.agg #[u1,u2])∧dp w.heap.size w' u1 u2 (al.set g k) (fl.set g 0)∧Below w.heap.size w w':=by
 have hl:=j_ w (.cells #[.slice pa na ca,.slice pf nf cf] 41) (.cells #[.slice none 0 0,.slice none 0 0] 41)
 have S0:OwS w ((w.alloc (.cells #[.slice pa na ca,.slice pf nf cf] 41)).alloc (.cells #[.slice none 0 0,.slice none 0 0] 41)) pa na ca pf nf cf al fl:=⟨hl.s0,hl.s1,hA.below hl.below,hF.below hl.below,hl.below⟩
 clear hA hF hl
 go_enter Tryz.func97,Tryz.ntmps97
 go_upto_region 1 with fail
 generalize (w.alloc (.cells #[.slice pa na ca,.slice pf nf cf] 41)).alloc (.cells #[.slice none 0 0,.slice none 0 0] 41)=w1 at *
 have x0:w1.cell? ⟨w.heap.size,0,none⟩=some (.slice pa na ca):=aa S0.s0 0
 have x1:w1.cell? ⟨w.heap.size,1,none⟩=some (.slice pf nf cf):=aa S0.s0 1
 go_wp2_with fail
 refine (vD pa na ca pf nf cf al fl w1 S0.ia S0.jf hqa hqf (by omega) (by omega)).mono ?_
 rintro e w2 ⟨u1,u2,rfl,hL,hb2⟩
 have r0:=(hb2.block _ (ac S0.s0)).trans S0.s0
 have r1:=(hb2.block _ (ac S0.s1)).trans S0.s1
 have HB2:=S0.bl.trans (hb2.mono S0.bl.size)
 have hz1:=S0.bl.size
 obtain⟨ga,c1,rfl,hga,hgaw⟩:=hL.a.some (by omega)
 obtain⟨gf,c2,rfl,hgf2,hgfw⟩:=hL.f.some (by omega)
 have hs1:=ac S0.s1
 clear S0 x0 x1 hb2
 have y0:=aa r0 0
 have y1:=aa r0 1
 have f0:=frozen_of_row w2 w.heap.size 0 _ _ r0
 have f1:=frozen_of_row w2 w.heap.size 1 _ _ r0
 have HP:eZ w2 (cH w2 w.heap.size (.slice (some ⟨ga,0,none⟩) al.length c1) (.slice (some ⟨gf,0,none⟩) fl.length c2)) w.heap.size _ #[.slice (some ⟨ga,0,none⟩) al.length c1,.slice (some ⟨gf,0,none⟩) fl.length c2]:=bc r0
 have hL3:=hL.put (u1:=.slice (some ⟨ga,0,none⟩) al.length c1) (u2:=.slice (some ⟨gf,0,none⟩) fl.length c2) r0 (by decide)
 have hB3:=HB2.trans (HP.below w.heap.size (by omega))
 have t0:=HP.row
 have t1:=(HP.other (w.heap.size+1) (by omega)).trans r1
 clear HB2 hL r0 r1
 go_upto_region 2 with fail
 change _ at *
 generalize hw3:cH w2 w.heap.size (.slice (some ⟨ga,0,none⟩) al.length c1) (.slice (some ⟨gf,0,none⟩) fl.length c2)=w3 at *
 unfold cH at hw3
 rw[hw3]
 clear hw3 HP y0 y1 f0 f1
 have y0:=aa t0 0
 have y1:=aa t0 1
 obtain⟨za,hza⟩:∃ z,al[g]?=some z:=⟨_,Dq hg⟩
 obtain⟨zf,hzf⟩:∃ z,fl[g]?=some z:=⟨_,Dq hgf⟩
 have HZ:=Do (And.intro hza hzf)
 have hgI:(g:Int)<(al.length:Int):=by omega
 have hgJ:(g:Int)<(fl.length:Int):=by omega
 clear hza hzf
 go_quiet (fail)
 obtain⟨w4,hw4⟩:∃ x,x=w3.drewN nq:=⟨_,rfl⟩
 have hL4:dp w1.heap.size w4 (.slice (some ⟨ga,0,none⟩) al.length c1) (.slice (some ⟨gf,0,none⟩) fl.length c2) al fl:=by rw[hw4];exact hL3.below (below_drewN (Below.refl _ _) _)
 have hB4:Below w.heap.size w w4:=by rw[hw4];exact below_drewN hB3 _
 have k0:w4.heap[w.heap.size]?=some (.cells #[.slice (some ⟨ga,0,none⟩) al.length c1,.slice (some ⟨gf,0,none⟩) fl.length c2] 41 (0,0)):=by rw[hw4];exact t0
 have k1:w4.heap[w.heap.size+1]?=some (.cells #[.slice none 0 0,.slice none 0 0] 41 (0,0)):=by rw[hw4];exact t1
 rw[←hw4]
 clear hw4 t0 t1 hL3 hB3 y0 y1
 have c3:=hL4.a.cellAt HZ.out.1
 have f3:=hL4.a.frozenAt g
 have hL5:=hL4.setA g k
 have hB5:Below w.heap.size w (w4.setCell ⟨ga,g,none⟩ (.int .i64 k)):=hB4.setCell (p:=⟨ga,g,none⟩) (by show w.heap.size≤ga;omega) _
 have k0':(w4.setCell ⟨ga,g,none⟩ (.int .i64 k)).heap[w.heap.size]?=some (.cells #[.slice (some ⟨ga,0,none⟩) al.length c1,.slice (some ⟨gf,0,none⟩) fl.length c2] 41 (0,0)):=(heap_setCell_other _ _ _ _ (by show w.heap.size≠ga;omega)).trans k0
 have k1':(w4.setCell ⟨ga,g,none⟩ (.int .i64 k)).heap[w.heap.size+1]?=some (.cells #[.slice none 0 0,.slice none 0 0] 41 (0,0)):=(heap_setCell_other _ _ _ _ (by show w.heap.size+1≠ga;omega)).trans k1
 clear hL4 hB4 k0 k1
 go_upto_region 4 with fail
 clear c3 f3
 generalize w4.setCell ⟨ga,g,none⟩ (.int .i64 k)=w5 at *
 have c4:=hL5.f.cellAt HZ.out.2
 have f4:=hL5.f.frozenAt g
 have hL6:=hL5.setF g 0
 have hB6:Below w.heap.size w (w5.setCell ⟨gf,g,none⟩ (.int .i64 0)):=hB5.setCell (p:=⟨gf,g,none⟩) (by show w.heap.size≤gf;omega) _
 have k0:(w5.setCell ⟨gf,g,none⟩ (.int .i64 0)).heap[w.heap.size]?=some (.cells #[.slice (some ⟨ga,0,none⟩) al.length c1,.slice (some ⟨gf,0,none⟩) fl.length c2] 41 (0,0)):=(heap_setCell_other _ _ _ _ (by show w.heap.size≠gf;omega)).trans k0'
 have k1:(w5.setCell ⟨gf,g,none⟩ (.int .i64 0)).heap[w.heap.size+1]?=some (.cells #[.slice none 0 0,.slice none 0 0] 41 (0,0)):=(heap_setCell_other _ _ _ _ (by show w.heap.size+1≠gf;omega)).trans k1'
 clear hL5 hB5 k0' k1'
 go_upto_region 5 with fail
 clear c4 f4
 generalize w5.setCell ⟨gf,g,none⟩ (.int .i64 0)=w6 at *
 have y0:=aa k0 0
 have y1:=aa k0 1
 have z0:=aa k1 0
 have z1:=aa k1 1
 have f0:=frozen_of_row w6 (w.heap.size+1) 0 _ _ k1
 have f1:=frozen_of_row w6 (w.heap.size+1) 1 _ _ k1
 have HP:eZ w6 (cH w6 (w.heap.size+1) (.slice (some ⟨ga,0,none⟩) al.length c1) (.slice (some ⟨gf,0,none⟩) fl.length c2)) (w.heap.size+1) _ #[.slice (some ⟨ga,0,none⟩) al.length c1,.slice (some ⟨gf,0,none⟩) fl.length c2]:=bc k1
 have HL:=Do (hL6.put (u1:=.slice (some ⟨ga,0,none⟩) al.length c1) (u2:=.slice (some ⟨gf,0,none⟩) fl.length c2) k1 (by decide))
 have HB:=hB6.trans (HP.below w.heap.size (by omega))
 go_wp2_with fail
 (try simp only[Exit.inBlock,Exit.then])
 refine bodyPost_ret (results_cell_row rfl _ _ (w.heap.size+1) _ _ (0,0) _ rfl HP.row Tryz.underlying41 rfl (by kernel_rfl)) rfl ?_
 exact⟨_,_,rfl,HL.out.base hz1,HB⟩
theorem nN (M:aB) (al:Ev→Bool) (now:St):∀ (us:List Ev) (s:List (St×aD)×List St),s.1 <+: (us.foldl (eJ M al now) s).1
 | [],_=>EZ _
 | u :: us,s=>by
  refine List.IsPrefix.trans ?_ (nN M al now us (eJ M al now s u))
  unfold eJ
  split
  ·exact List.prefix_append _ _
  ·exact EZ _
theorem uU (M:aB) (al:Ev→Bool) (fd:St→Bool):∀ (m:Nat) (R:List (St×aD)) (q:List St),R <+: (bfs M al fd m R q).2
 | 0,_,_=>EZ _
 | m+1,R,[]=>EZ _
 | m+1,R,now :: q=>by
  rw[bfs]
  split
  ·exact EZ _
  ·exact List.IsPrefix.trans (nN M al now _ (R,q)) (uU M al fd m _ _)
def eK (M:aB) (x:St) (al:Ev→Bool):List (St×aD):=(aY M x al (fun _=>false)).2
theorem rH (M:aB) (al:Ev→Bool) (fd:St→Bool):∀ (m:Nat) (R:List (St×aD)) (q:List St),
  (bfs M al fd m R q).2 <+: (bfs M al (fun _=>false) m R q).2∧((bfs M al fd m R q).1=none→(bfs M al fd m R q).2=(bfs M al (fun _=>false) m R q).2)
 | 0,_,_=>⟨EZ _,fun _=>rfl⟩
 | m+1,R,[]=>⟨EZ _,fun _=>rfl⟩
 | m+1,R,now :: q=>by
  rw[bfs,bfs,if_neg DB]
  by_cases h:fd now=true
  ·rw[if_pos h]
   exact⟨List.IsPrefix.trans (nN M al now _ (R,q)) (uU M al _ m _ _),fun h=>by cases h⟩
  ·rw[if_neg h]
   exact rH M al fd m _ _
theorem nM {M:aB} (G:M.Good) {al:Ev→Bool}{x:St} (hx:M.At x):Inv M al (fun _=>false) x (eK M x al) (eK M x al).length:=by
 have:=gi G (al:=al) (fd:=fun _=>false) hx
 have hn:(aY M x al (fun _=>false)).1=none:=by
  have key:∀ (m:Nat) (R:List (St×aD)) (q:List St),(bfs M al (fun _=>false) m R q).1=none:=by
   intro m
   induction m with
   | zero=>intro R q;rfl
   | succ m ih =>
    intro R q
    cases q with
    | nil=>rfl
    | cons now q=>rw[bfs,if_neg DB];exact ih _ _
  exact key _ _ _
 unfold eK
 revert hn this
 generalize aY M x al (fun _=>false)=res
 obtain⟨r,R⟩:=res
 intro h1 h2
 simp only at h2
 subst h2
 exact h1.inv
theorem yl {M:aB}{al:Ev→Bool}{fd fd':St→Bool}{x0:St}{R R':List (St×aD)}{i i':Nat} (h:Inv M al fd x0 R i) (h':Inv M al fd' x0 R' i') (hp:R <+: R'):∀ (j:Nat) (p:St×aD),R[j]?=some p→dc R (j+1) p.1=dc R' (j+1) p.1:=by
 intro j
 induction j using Nat.strongRecOn with
 | ind j ih =>
  intro p hpj
  have hp':R'[j]?=some p:=by
   obtain⟨t,rfl⟩:=hp
   obtain⟨hj,rfl⟩:=Du.1 hpj
   rw[DD hj];exact hpj
  by_cases hf:p.2.first=true
  ·rw[kY h hpj hf,kY h' hp' hf]
  ·have hf':p.2.first=false:=by simpa using hf
   obtain⟨k,q,a1,a2,a3,a4,a5⟩:=jJ h hpj hf'
   obtain⟨k',q',b1,b2,b3,b4,b5⟩:=jJ h' hp' hf'
   have hq':R'[k]?=some q:=by
    obtain⟨t,rfl⟩:=hp
    obtain⟨hk,rfl⟩:=Du.1 a2
    rw[DD hk];exact a2
   have hkk:k=k':=by
    obtain⟨c1,c2⟩:=Du.1 hq'
    obtain⟨d1,d2⟩:=Du.1 b2
    have hkeys:(az R')[k]?=(az R')[k']?:=by
     unfold az
     rw[DN,DN,hq',b2]
     show some q.1=some q'.1
     rw[←a3,←b3]
    exact (List.getElem?_inj (by unfold az;simpa using c1) h'.nd).1 hkeys
   subst hkk
   rw[hq'] at b2
   injection b2 with b2
   subst b2
   rw[a5,b5,ih k a1 q a2]
theorem lj {M:aB} (G:M.Good) {al:Ev→Bool}{fd:St→Bool}{x:St} (hx:M.At x) :
  (∃ i p,(eK M x al)[i]?=some p∧fd p.1=true∧(∀ (j:Nat) (q:St×aD),j<i→(eK M x al)[j]?=some q→fd q.1=false)∧∃ R,aY M x al fd=(some p.1,R)∧gW R p.1=(dc (eK M x al) (i+1) p.1).reverse) ∨
  ((∀ (j:Nat) (q:St×aD),(eK M x al)[j]?=some q→fd q.1=false)∧∃ R,aY M x al fd=(none,R)):=by
 have h1:=gi G (al:=al) (fd:=fd) hx
 have h2:=rH M al fd 65537 (kE x) [x]
 have hF:=nM G (al:=al) hx
 change (aY M x al fd).2 <+: eK M x al∧((aY M x al fd).1=none→(aY M x al fd).2=eK M x al) at h2
 revert h1 h2
 generalize aY M x al fd=res
 obtain⟨r,R⟩:=res
 intro h1 h2
 simp only at h2
 cases r with
 | some y =>
  left
  obtain⟨i,s,hI,hi⟩:=h1.ex
  obtain⟨t,ht⟩:=h2.1
  have hpre:R <+: eK M x al:=⟨t,ht⟩
  have hil:=(Du.1 hi).1
  have hget:∀ j,j<R.length→(eK M x al)[j]?=R[j]?:=fun j hj=>by rw[←ht,DD hj]
  refine⟨i,(y,s),by rw[hget i hil];exact hi,h1.fd,fun j q hj hq=>?_,R,rfl,?_⟩
  ·rw[hget j (by omega)] at hq
   exact (hI.done j q hj hq).1
  ·unfold gW
   rw[sD hI hi,yl hI hF hpre i _ hi]
 | none =>
  right
  refine⟨fun j q hq=>?_,R,rfl⟩
  have e:=h2.2 rfl
  have hL:BV M al fd x R:=h1
  rw[←e] at hq
  exact (hL.inv.done j q (Du.1 hq).1 hq).1
theorem Cy {x y:St} (ha:∀ j,j<3→x.a j=y.a j) (hf:∀ j,j<3→x.f j=y.f j):x=y:=by
 cases x;cases y
 have a0:=ha 0 (by omega);have a1:=ha 1 (by omega);have a2:=ha 2 (by omega)
 have f0:=hf 0 (by omega);have f1:=hf 1 (by omega);have f2:=hf 2 (by omega)
 simp only[St.a,St.f] at a0 a1 a2 f0 f1 f2
 subst a0;subst a1;subst a2;subst f0;subst f1;subst f2
 rfl
def fv (x:St):Nat→Nat
 | 0=>0
 | i+1=>(fv x i*8+(x.a i).toNat)*4+(x.f i).toNat
theorem qX {x:St} (h:∀ g,g<3→0≤x.a g∧x.a g<8∧0≤x.f g∧x.f g<4):∀ i,i≤3→fv x i<32 ^ i
 | 0,_=>by unfold fv;omega
 | i+1,hi=>by
  have h1:=qX h i (by omega)
  have h2:=h i (by omega)
  have e1:=lt8 h1 (show (x.a i).toNat<8 by omega)
  have e2:=lt4 e1 (show (x.f i).toNat<4 by omega)
  rw[fv,DJ]
  omega
theorem sR {x y:St} (hx:∀ g,g<3→0≤x.a g∧x.a g<8∧0≤x.f g∧x.f g<4) (hy:∀ g,g<3→0≤y.a g∧y.a g<8∧0≤y.f g∧y.f g<4):∀ i,i≤3→fv x i=fv y i→∀ g,g<i→x.a g=y.a g∧x.f g=y.f g
 | 0,_,_,g,hg=>by omega
 | i+1,hi,e,g,hg=>by
  have h1:=hx i (by omega)
  have h2:=hy i (by omega)
  rw[fv,fv] at e
  obtain⟨e,g2⟩:=vE (show (x.f i).toNat<4 by omega) (show (y.f i).toNat<4 by omega) e
  obtain⟨e,g1⟩:=zJ (show (x.a i).toNat<8 by omega) (show (y.a i).toNat<8 by omega) e
  by_cases hgi:g=i
  ·subst hgi;omega
  ·exact sR hx hy i (by omega) e g (by omega)
theorem zF {M:aB} (G:M.Good) {x:St} (h:M.At x):fv x M.n<32768:=by
 have h1:=qX (cD G h) M.n G.n3
 have h3:32 ^ M.n≤32 ^ 3:=DW (by omega) G.n3
 omega
theorem Bh {M:aB} (G:M.Good) {x y:St} (hx:M.At x) (hy:M.At y) (e:fv x M.n=fv y M.n):x=y:=by
 have h:=sR (cD G hx) (cD G hy) M.n G.n3 e
 refine Cy (fun j hj=>?_) (fun j hj=>?_)
 ·by_cases hn:j<M.n
  ·exact (h j hn).1
  ·rw[hx.a0 j (by omega) hj,hy.a0 j (by omega) hj]
 ·by_cases hn:j<M.n
  ·exact (h j hn).2
  ·rw[hx.f0 j (by omega) hj,hy.f0 j (by omega) hj]
def qS (m g:Nat):List Ev:=(List.range (m+1)).map fun (k:Nat)=>(⟨g,k⟩:Ev)
def fZ (n m:Nat):List Ev:=(List.range n).flatMap (qS m)
structure pD (al:Ev→Bool) (m:Nat):Prop where
 le:m≤2
 fold:∀ (n:Nat) (M:aB) (now:St) (s:List (St×aD)×List St),(evs n).foldl (eJ M al now) s=(fZ n m).foldl (eJ M al now) s
 all:∀ (n:Nat),∀ v∈fZ n m,al v=true
 mem:∀ (n:Nat) (v:Ev),v∈evs n→al v=true→v∈fZ n m
theorem pM {α β γ:Type} (f:α→β→α) (g h:γ→List β) (hgh:∀ c a,(g c).foldl f a=(h c).foldl f a):∀ (l:List γ) (a:α),(l.flatMap g).foldl f a=(l.flatMap h).foldl f a
 | [],_=>rfl
 | c :: l,a=>by
  rw[D0,D0,Fn,Fn,hgh,pM f g h hgh l]
theorem gd (m:Nat):∀ n,(fZ n m).length=n*(m+1)
 | 0=>by simp[fZ]
 | n+1=>by
  have:=gd m n
  unfold fZ at this ⊢
  rw[EK,Eo,Dx,this]
  simp[qS,D6]
theorem yP {n m g k:Nat} (hg:g<n) (hk:k<m+1):(fZ n m)[g*(m+1)+k]?=some ⟨g,k⟩:=by
 induction n with
 | zero=>omega
 | succ n ih =>
  have hl:=gd m n
  have e:fZ (n+1) m=fZ n m++qS m n:=by
   unfold fZ
   rw[EK,Eo];simp
  rw[e]
  rcases Eb g n with h1 | h1
  ·rw[DD (by rw[hl];have:=DA (m+1) (show g+1≤n by omega);rw[D6] at this;omega)]
   exact ih h1
  ·have:g=n:=by omega
   subst this
   rw[Ej (by omega),hl,Nat.add_sub_cancel_left,qS,DN,EL hk]
   rfl
theorem qK {M:aB}{m:Nat} (hm:m≤2) {v:Ev} (hv:v∈fZ M.n m):fh M v=true:=by
 unfold fZ at hv
 obtain⟨g,hg,hv⟩:=FH.1 hv
 obtain⟨k,hk,rfl⟩:=DY.1 hv
 have:=DG.1 hk
 have:=DG.1 hg
 rw[jm]
 simp only
 omega
structure ib (x0:St) (R:List (St×aD)) (L:List (St×Int×Ev)):Prop where
 key:L.map (·.1)=az R
 zero:∃ v,L[0]?=some (x0,-1,v)
 src:∀ j p,0<j→L[j]?=some p→∃ k:Nat,k<j∧p.2.1=(k:Int)∧∃ q s,R[j]?=some (p.1,s)∧R[k]?=some q∧s.src=q.1∧p.2.2=s.ev∧s.first=false
theorem ib.len {x0:St}{R:List (St×aD)}{L:List (St×Int×Ev)} (h:ib x0 R L):L.length=R.length:=by
 have:=congrArg List.length h.key
 simpa[az] using this
theorem ib.start (x:St) (v:Ev):ib x (kE x) [(x,-1,v)]:=by
 refine⟨rfl,⟨v,rfl⟩,fun j p hj hp=>?_⟩
 have:=(Du.1 hp).1
 simp at this
 omega
theorem ib.add {x0:St}{R:List (St×aD)}{L:List (St×Int×Ev)} (h:ib x0 R L) {i:Nat}{now:St}{s:aD} (hi:R[i]?=some (now,s)) (y:St) (v:Ev):ib x0 (R++[(y,⟨now,v,false⟩)]) (L++[(y,(i:Int),v)]):=by
 have hl:=h.len
 have hil:=(Du.1 hi).1
 refine⟨by unfold az;rw[DZ,DZ,h.key];rfl,?_,fun j p hj hp=>?_⟩
 ·obtain⟨u,hu⟩:=h.zero
  exact⟨u,by rw[DD (by omega)];exact hu⟩
 ·by_cases hjl:j<L.length
  ·rw[DD hjl] at hp
   obtain⟨k,h1,h2,q,t,h3,h4,h5⟩:=h.src j p hj hp
   exact⟨k,h1,h2,q,t,by rw[DD (by omega)];exact h3,by rw[DD (by omega)];exact h4,h5⟩
  ·have hj2:=(Du.1 hp).1
   simp at hj2
   obtain rfl:j=L.length:=by omega
   rw[Ej (Dp _),Fe] at hp
   cases hp
   exact⟨i,by omega,rfl,(now,s),⟨now,v,false⟩,by rw[hl,Ej (Dp _),Fe];rfl,by rw[DD hil];exact hi,rfl,rfl,rfl⟩
def j5 (L:List (St×Int×Ev)):Nat→Nat→List Ev
 | 0,_=>[]
 | m+1,i=>match L[i]? with
  | none=>[]
  | some p=>if p.2.1<0 then [] else j5 L m p.2.1.toNat++[p.2.2]
theorem CA {M:aB}{al:Ev→Bool}{fd:St→Bool}{x0:St}{R:List (St×aD)}{i:Nat}{L:List (St×Int×Ev)} (h:Inv M al fd x0 R i) (hL:ib x0 R L):∀ (j:Nat) (p:St×aD),R[j]?=some p→∀ m,j<m→j5 L m j=(dc R (j+1) p.1).reverse:=by
 intro j
 induction j using Nat.strongRecOn with
 | ind j ih =>
  intro p hp m hm
  obtain⟨m,rfl⟩:∃ n,m=n+1:=⟨m-1,by omega⟩
  have hjR:=(Du.1 hp).1
  have hjL:j<L.length:=by rw[hL.len];exact hjR
  rw[j5,Dq hjL]
  simp only
  by_cases hj0:j=0
  ·subst hj0
   obtain⟨v,hv⟩:=hL.zero
   rw[Dq hjL] at hv
   rw[Option.some.inj hv,if_pos (show (-1:Int)<0 by decide)]
   have:=h.h0
   rw[hp] at this
   have e:=Option.some.inj this
   rw[kY h hp (by rw[e])]
   rfl
  ·obtain⟨k,h1,h2,q,s,h3,h4,h5,h6,h7⟩:=hL.src j _ (by omega) (Dq hjL)
   rw[hp] at h3
   have e:=Option.some.inj h3
   have hps:p.2=s:=by rw[e]
   obtain⟨k',q',a1,a2,a3,a4,a5⟩:=jJ h hp (by rw[hps];exact h7)
   rw[h2,if_neg (by omega),DC,h6,a5,FZ]
   have hkk:k=k':=by
    obtain⟨d1,d2⟩:=Du.1 h4
    have hkeys:(az R)[k]?=(az R)[k']?:=by
     unfold az
     rw[DN,DN,h4,a2]
     show some q.1=some q'.1
     rw[←a3,←h5,hps]
    exact (List.getElem?_inj (by unfold az;simpa using d1) h.nd).1 hkeys
   subst hkk
   rw[h4] at a2
   have e2:=Option.some.inj a2
   rw[ih k h1 q h4 m (by omega),e2,hps]
structure WkO (M:aB) (al:Ev→Bool) (x0:St) (R:List (St×aD)) (L:List (St×Int×Ev)) (i:Nat):Prop where
 inv:Inv M al (fun _=>false) x0 R i
 ref:ib x0 R L
 full:(bfs M al (fun _=>false) (65537-i) R ((az R).drop i)).2=eK M x0 al
theorem WkO.start {M:aB}{al:Ev→Bool}{x:St} (hx:M.At x) (v:Ev):WkO M al x (kE x) [(x,-1,v)] 0:=⟨lL hx,ib.start x v,rfl⟩
theorem WkO.len {M:aB} (G:M.Good) {al:Ev→Bool}{x0:St}{R:List (St×aD)}{L:List (St×Int×Ev)}{i:Nat} (h:WkO M al x0 R L i):L.length≤32768:=by rw[h.ref.len];exact dI G h.inv
theorem WkO.stop {M:aB} (G:M.Good) {al:Ev→Bool}{x0:St}{R:List (St×aD)}{L:List (St×Int×Ev)}{i:Nat} (h:WkO M al x0 R L i) (hi:L.length≤i):R=eK M x0 al:=by
 have hl:=h.ref.len
 have:=h.full
 rw[DP (by unfold az;rw[DR];omega)] at this
 rw[←this]
 cases 65537-i<;>rfl
structure WkM (M:aB) (al:Ev→Bool) (m:Nat) (x0:St) (now:St) (R:List (St×aD)) (L:List (St×Int×Ev)) (i t:Nat):Prop where
 mid:Mid M al (fun _=>false) x0 now R i ((fZ M.n m).take t)
 ref:ib x0 R L
 rest:∃ Q,(now :: Q)=(az R).drop i∧(bfs M al (fun _=>false) (65537-(i+1)) (((fZ M.n m).drop t).foldl (eJ M al now) (R,Q)).1 (((fZ M.n m).drop t).foldl (eJ M al now) (R,Q)).2).2=eK M x0 al
theorem WkO.enter {M:aB} (G:M.Good) {al:Ev→Bool}{m:Nat} (hs:pD al m) {x0:St}{R:List (St×aD)}{L:List (St×Int×Ev)}{i:Nat} (h:WkO M al x0 R L i) (hi:i<L.length):WkM M al m x0 L[i].1 R L i 0:=by
 have hl:=h.ref.len
 have hb:=h.len G
 have hiR:i<R.length:=by omega
 have hk:(az R)[i]'(by unfold az;simpa using hiR)=L[i].1:=by
  have:=h.ref.key
  have h2:(L.map (·.1))[i]'(by simpa using hi)=L[i].1:=by simp
  rw[←h2]
  simp only[this]
 have hd:(L[i].1 :: (az R).drop (i+1))=(az R).drop i:=by
  rw[DU (show i<(az R).length by unfold az;simpa using hiR),hk]
 refine⟨⟨h.inv,⟨R[i].2,?_⟩,fun v hv=>by simp at hv⟩,h.ref,(az R).drop (i+1),hd,?_⟩
 ·rw[Dq hiR,←hk]
  unfold az
  simp
 ·have hf:=h.full
  rw[←hd,show 65537-i=(65537-(i+1))+1 from by omega,bfs,if_neg DB] at hf
  rw[EC]
  unfold mm at hf
  rw[hs.fold M.n M L[i].1 (R,(az R).drop (i+1))] at hf
  exact hf
theorem WkM.leave {M:aB} (G:M.Good) {al:Ev→Bool}{m:Nat} (hs:pD al m) {x0 now:St}{R:List (St×aD)}{L:List (St×Int×Ev)}{i t:Nat} (h:WkM M al m x0 now R L i t) (ht:M.n*(m+1)≤t):WkO M al x0 R L (i+1):=by
 obtain⟨Q,hQ,hf⟩:=h.rest
 rw[DP (by rw[gd];exact ht)] at hf
 have hm:=h.mid
 rw[Dw (by rw[gd];exact ht)] at hm
 obtain⟨s',hs'⟩:=hm.here
 refine⟨⟨hm.inv.nd,hm.inv.at_,hm.inv.h0,fun j p hj hp=>?_,fun j p hj hp=>?_⟩,h.ref,?_⟩
 ·obtain⟨k,q,a,b,c⟩:=hm.inv.src j p hj hp
  exact⟨k,q,a,by omega,c⟩
 ·by_cases hji:j<i
  ·exact hm.inv.done j p hji hp
  ·have:j=i:=by omega
   subst this
   rw[hs'] at hp
   cases hp
   refine⟨rfl,fun v hv ha=>?_⟩
   exact hm.seen v (hs.mem _ _ (iu.2 hv) ha) ha
 ·have:=congrArg List.tail hQ
  rw[List.tail_drop] at this
  rw[←this]
  exact hf
theorem rV {α:Type}{l:List α}{t:Nat}{x:α} (h:l[t]?=some x):l.drop t=x :: l.drop (t+1)∧l.take (t+1)=l.take t++[x]:=by
 obtain⟨ht,rfl⟩:=Du.1 h
 exact⟨DU ht,by rw[D3,h];rfl⟩
theorem WkM.old {M:aB} (G:M.Good) {al:Ev→Bool}{m:Nat} (hs:pD al m) {x0 now:St}{R:List (St×aD)}{L:List (St×Int×Ev)}{i t:Nat} (h:WkM M al m x0 now R L i t) {v:Ev} (hv:(fZ M.n m)[t]?=some v) (hk:bM M now v∈az R):WkM M al m x0 now R L i (t+1):=by
 obtain⟨Q,hQ,hf⟩:=h.rest
 obtain⟨e1,e2⟩:=rV hv
 have hvm:v∈fZ M.n m:=Ec hv
 have hadd:eJ M al now (R,Q) v=(R,Q):=by
  unfold eJ
  rw[if_neg]
  intro hc
  rw[Dv] at hc
  exact fc.1 (Option.isNone_iff_eq_none.1 hc.1) hk
 have h1:=k9 G h.mid (qK hs.le hvm) hQ
 rw[hadd] at h1
 rw[e1,Fw,hadd] at hf
 exact⟨by rw[e2];exact h1.1,h.ref,Q,hQ,hf⟩
theorem WkM.new {M:aB} (G:M.Good) {al:Ev→Bool}{m:Nat} (hs:pD al m) {x0 now:St}{R:List (St×aD)}{L:List (St×Int×Ev)}{i t:Nat} (h:WkM M al m x0 now R L i t) {v:Ev} (hv:(fZ M.n m)[t]?=some v) (hk:bM M now v∉az R):WkM M al m x0 now (R++[(bM M now v,⟨now,v,false⟩)]) (L++[(bM M now v,(i:Int),v)]) i (t+1):=by
 obtain⟨Q,hQ,hf⟩:=h.rest
 obtain⟨e1,e2⟩:=rV hv
 have hvm:v∈fZ M.n m:=Ec hv
 have hadd:eJ M al now (R,Q) v=(R++[(bM M now v,⟨now,v,false⟩)],Q++[bM M now v]):=by
  unfold eJ
  rw[if_pos (by rw[fc.2 hk,hs.all _ _ hvm];rfl)]
 have h1:=k9 G h.mid (qK hs.le hvm) hQ
 rw[hadd] at h1
 rw[e1,Fw,hadd] at hf
 obtain⟨s,hi⟩:=h.mid.here
 exact⟨by rw[e2];exact h1.1,h.ref.add hi _ _,Q++[bM M now v],h1.2,hf⟩
theorem qy {n g:Nat} (hn:n≤3) (hg:g<n) (y:St) (k:Int):(atL n y).set g k=atL n (y.go g k):=by
 have h1:n=1∨n=2∨n=3:=by omega
 have h2:g=0∨g=1∨g=2:=by omega
 rcases h1 with rfl | rfl | rfl<;>rcases h2 with rfl | rfl | rfl<;>first | rfl | omega
theorem kR {n g:Nat} (hn:n≤3) (hg:g<n) (y:St) (k:Int):(aX n y).set g 0=aX n (y.go g k):=by
 have h1:n=1∨n=2∨n=3:=by omega
 have h2:g=0∨g=1∨g=2:=by omega
 rcases h1 with rfl | rfl | rfl<;>rcases h2 with rfl | rfl | rfl<;>first | rfl | omega
theorem ua {n g:Nat} (hn:n≤3) (hg:g<n) (y:St):(aX n y).set g (y.f g+1)=aX n (y.fail g):=by
 have h1:n=1∨n=2∨n=3:=by omega
 have h2:g=0∨g=1∨g=2:=by omega
 rcases h1 with rfl | rfl | rfl<;>rcases h2 with rfl | rfl | rfl<;>first | rfl | omega
theorem yi {n g:Nat} (hn:n≤3) (hg:g<n) (y:St):atL n y=atL n (y.fail g):=by
 have h1:n=1∨n=2∨n=3:=by omega
 have h2:g=0∨g=1∨g=2:=by omega
 rcases h1 with rfl | rfl | rfl<;>rcases h2 with rfl | rfl | rfl<;>first | rfl | omega
theorem pK {n g:Nat} (hn:n≤3) (hg:g<n) (y:St):(aX n y)[g]?=some (y.f g):=i_ hn y hg
theorem xz {gs:List Gd} (hS:a8 gs=true) {g:Nat} (hg:g<gs.length):aG (ag gs g) []<0:=by
 have hr:=bI (ag gs g) []
 rcases Int.lt_or_le (aG (ag gs g) []) 0 with h | h
 ·exact h
 ·exfalso
  obtain⟨k,hk⟩:∃ k:Nat,aG (ag gs g) []=(k:Int):=⟨(aG (ag gs g) []).toNat,by omega⟩
  obtain⟨hkl,he⟩:=oy hk
  have h1:=eM (bC hS hg) hkl
  unfold bR cY at h1
  simp only[Dv] at h1
  have h2:=h1.1.1.1.1.1.1
  rw[lh hkl,he] at h2
  exact absurd h2 (by decide)
theorem oc {gs:List Gd} (hS:a8 gs=true) {g k:Nat} (hg:g<gs.length) (hk:k<(ag gs g).length):(aO gs g k).next.data.toList=[]↔(ah gs).next g k<0:=by
 have h1:(ah gs).next g k=aG (ag gs g) (aO gs g k).next.data.toList:=rfl
 rw[h1]
 constructor
 ·intro h
  rw[h];exact xz hS hg
 ·intro h
  have h2:=eM (bC hS hg) hk
  unfold bR at h2
  simp only[Dv] at h2
  rcases (oO.1 h2.1.1.2).1 with h3 | h3
  ·exact h3
  ·omega
end Go.Proofs.YtnkgbocdpngldaaGreatDoor
