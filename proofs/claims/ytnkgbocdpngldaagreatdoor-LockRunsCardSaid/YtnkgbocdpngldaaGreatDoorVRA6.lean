/-
  Texts of this claim: RA6, RA7.
-/
import Derived.Test.YtnkgbocdpngldaaGreatDoorVSta1
import Derived.Test.YtnkgbocdpngldaaGreatDoorVA
set_option linter.unusedVariables false
set_option linter.unusedSimpArgs false
set_option maxRecDepth 100000
set_option maxHeartbeats 8000000

namespace Go.Proofs.YtnkgbocdpngldaaGreatDoor
open Go.RowKit Dc Dg
def yz (w:World) (b:Nat) (u0 u1 u2 u3 u4 u5 u6:Value):World :=
 ((((((w.setCell ⟨b,0,none⟩ u0).setCell ⟨b,1,none⟩ u1).setCell ⟨b,2,none⟩ u2).setCell ⟨b,3,none⟩ u3).setCell ⟨b,4,none⟩ u4).setCell ⟨b,5,none⟩ u5).setCell ⟨b,6,none⟩ u6
theorem vN {w:World} {b:Nat} {v0 v1 v2 v3 v4 v5 v6 u0 u1 u2 u3 u4 u5 u6:Value} {t:TypeId} (h:w.heap[b]?=some (.cells #[v0,v1,v2,v3,v4,v5,v6] t (0,0))):ee w (yz w b u0 u1 u2 u3 u4 u5 u6) b t #[u0,u1,u2,u3,u4,u5,u6]:=by
 have e0:(w.setCell ⟨b,0,none⟩ u0).heap[b]?=some (.cells #[u0,v1,v2,v3,v4,v5,v6] t (0,0)):=heap_setCell_same _ b 0 _ _ u0 h
 have e1:((w.setCell ⟨b,0,none⟩ u0).setCell ⟨b,1,none⟩ u1).heap[b]?=some (.cells #[u0,u1,v2,v3,v4,v5,v6] t (0,0)):=heap_setCell_same _ b 1 _ _ u1 e0
 have e2:(((w.setCell ⟨b,0,none⟩ u0).setCell ⟨b,1,none⟩ u1).setCell ⟨b,2,none⟩ u2).heap[b]?=some (.cells #[u0,u1,u2,v3,v4,v5,v6] t (0,0)):=heap_setCell_same _ b 2 _ _ u2 e1
 have e3:((((w.setCell ⟨b,0,none⟩ u0).setCell ⟨b,1,none⟩ u1).setCell ⟨b,2,none⟩ u2).setCell ⟨b,3,none⟩ u3).heap[b]?=some (.cells #[u0,u1,u2,u3,v4,v5,v6] t (0,0)):=heap_setCell_same _ b 3 _ _ u3 e2
 have e4:(((((w.setCell ⟨b,0,none⟩ u0).setCell ⟨b,1,none⟩ u1).setCell ⟨b,2,none⟩ u2).setCell ⟨b,3,none⟩ u3).setCell ⟨b,4,none⟩ u4).heap[b]?=some (.cells #[u0,u1,u2,u3,u4,v5,v6] t (0,0)):=heap_setCell_same _ b 4 _ _ u4 e3
 have e5:((((((w.setCell ⟨b,0,none⟩ u0).setCell ⟨b,1,none⟩ u1).setCell ⟨b,2,none⟩ u2).setCell ⟨b,3,none⟩ u3).setCell ⟨b,4,none⟩ u4).setCell ⟨b,5,none⟩ u5).heap[b]?=some (.cells #[u0,u1,u2,u3,u4,u5,v6] t (0,0)):=heap_setCell_same _ b 5 _ _ u5 e4
 have e6:(((((((w.setCell ⟨b,0,none⟩ u0).setCell ⟨b,1,none⟩ u1).setCell ⟨b,2,none⟩ u2).setCell ⟨b,3,none⟩ u3).setCell ⟨b,4,none⟩ u4).setCell ⟨b,5,none⟩ u5).setCell ⟨b,6,none⟩ u6).heap[b]?=some (.cells #[u0,u1,u2,u3,u4,u5,u6] t (0,0)):=heap_setCell_same _ b 6 _ _ u6 e5
 refine ⟨e6,fun k hk=>?_,by simp [yz,World.setCell],fun n hn=>?_⟩
 ·unfold yz
  rw [heap_setCell_other _ _ _ _ hk,heap_setCell_other _ _ _ _ hk,heap_setCell_other _ _ _ _ hk,heap_setCell_other _ _ _ _ hk,heap_setCell_other _ _ _ _ hk,heap_setCell_other _ _ _ _ hk,heap_setCell_other _ _ _ _ hk]
 ·exact (((((((Below.refl n w).setCell (p:=⟨b,0,none⟩) hn _).setCell (p:=⟨b,1,none⟩) hn _).setCell (p:=⟨b,2,none⟩) hn _).setCell (p:=⟨b,3,none⟩) hn _).setCell (p:=⟨b,4,none⟩) hn _).setCell (p:=⟨b,5,none⟩) hn _).setCell (p:=⟨b,6,none⟩) hn _
structure AtS (w:World) (k0 bg og n c g:Nat) (b o cq nr k ba oa na ca:Nat) (r:Rg) (q1:Option Addr) (c1:Nat) (q2:Option Addr) (c2:Nat):Prop where
 sy:w.cell? ⟨k0,0,none⟩=some (.slice (some ⟨bg,og,none⟩) n c)
 gu:w.cell? ⟨bg,og+g*2+1,none⟩=some (.slice (some ⟨b,o,none⟩) nr cq)
 st:w.cell? ⟨k0+1,0,none⟩=some (.slice (some ⟨ba,oa,none⟩) na ca)
 al:w.cell? ⟨ba,oa+g,none⟩=some (.int .i64 k)
 R:jP w b (o+k*7) r q1 c1 q2 c2
theorem aZ.get {w:World} {v:Value} {l:List Int} (h:aZ w v l) {j:Nat} (hj:j<l.length):∃ b o c,v=.slice (some ⟨b,o,none⟩) l.length c∧b<w.heap.size∧w.cell? ⟨b,o+j,none⟩=some (.int .i64 l[j]):=by
 obtain ⟨p,c,rfl,hc⟩:=h.at_
 obtain ⟨b,o,rfl,hb,hc⟩:=hc (by omega)
 exact ⟨b,o,c,rfl,hb,hc j hj⟩
theorem zJ (w:World) (bg og n c g b o cq nr k ba oa na ca:Nat) (pf:Option Addr) (nf cf:Nat) (r:Rg) (q1:Option Addr) (c1:Nat) (q2:Option Addr) (c2:Nat)
  (hg:g<n) (hk:k<nr) (hga:g<na) (hbg:bg<w.heap.size) (hb:b<w.heap.size) (hba:ba<w.heap.size)
  (h1:w.cell? ⟨bg,og+g*2+1,none⟩=some (.slice (some ⟨b,o,none⟩) nr cq)) (h2:w.cell? ⟨ba,oa+g,none⟩=some (.int .i64 k)) (hR:jP w b (o+k*7) r q1 c1 q2 c2) :
  Calls Tryz.prog 79 #[.agg #[.slice (some ⟨bg,og,none⟩) n c],.agg #[.slice (some ⟨ba,oa,none⟩) na ca,.slice pf nf cf],.int .i64 g] w fun e w'=>e=.returned (.agg #[.string r.name,.string r.next,.string r.back,.int .i64 r.tries,.int .i64 r.minutes,.slice q1 r.needs.length c1,.slice q2 r.loops.length c2])∧Below w.heap.size w w':=by
 have hl:=qS w (.cells #[.slice (some ⟨bg,og,none⟩) n c] 24) (.cells #[.slice (some ⟨ba,oa,none⟩) na ca,.slice pf nf cf] 41) (.cells #[.string ⟨#[]⟩,.string ⟨#[]⟩,.string ⟨#[]⟩,.int .i64 0,.int .i64 0,.slice none 0 0,.slice none 0 0] 59)
 have hbd0:Below (((w.alloc (.cells #[.slice (some ⟨bg,og,none⟩) n c] 24)).alloc (.cells #[.slice (some ⟨ba,oa,none⟩) na ca,.slice pf nf cf] 41)).alloc (.cells #[.string ⟨#[]⟩,.string ⟨#[]⟩,.string ⟨#[]⟩,.int .i64 0,.int .i64 0,.slice none 0 0,.slice none 0 0] 59)).heap.size _ (((w.alloc (.cells #[.slice (some ⟨bg,og,none⟩) n c] 24)).alloc (.cells #[.slice (some ⟨ba,oa,none⟩) na ca,.slice pf nf cf] 41)).alloc (.cells #[.string ⟨#[]⟩,.string ⟨#[]⟩,.string ⟨#[]⟩,.int .i64 0,.int .i64 0,.slice none 0 0,.slice none 0 0] 59)).drew:=(Below.refl _ _).drew
 have hbd:=hl.below.trans (hbd0.mono hl.below.size)
 have hS:AtS (((w.alloc (.cells #[.slice (some ⟨bg,og,none⟩) n c] 24)).alloc (.cells #[.slice (some ⟨ba,oa,none⟩) na ca,.slice pf nf cf] 41)).alloc (.cells #[.string ⟨#[]⟩,.string ⟨#[]⟩,.string ⟨#[]⟩,.int .i64 0,.int .i64 0,.slice none 0 0,.slice none 0 0] 59)).drew w.heap.size bg og n c g b o cq nr k ba oa na ca r q1 c1 q2 c2 :=
  ⟨(hbd0.cell (p:=⟨_,_,none⟩) (ac hl.s0)).trans (aa hl.s0 0),(hbd.cell (p:=⟨_,_,none⟩) hbg).trans h1,(hbd0.cell (p:=⟨_,_,none⟩) (ac hl.s1)).trans (aa hl.s1 0),(hbd.cell (p:=⟨_,_,none⟩) hba).trans h2,hR.below hb hbd⟩
 have hr2:=(hbd0.block _ (ac hl.s2)).trans hl.s2
 have hnI:(g:Int)<(n:Int):=by omega
 have hkI:(k:Int)<(nr:Int):=by omega
 have haI:(g:Int)<(na:Int):=by omega
 clear hbd0 hl hR h1 h2
 go_enter Tryz.func79,Tryz.ntmps79
 go_upto_region 1 with fail
 generalize ((w.alloc (.cells #[.slice (some ⟨bg,og,none⟩) n c] 24)).alloc (.cells #[.slice (some ⟨ba,oa,none⟩) na ca,.slice pf nf cf] 41)).alloc (.cells #[.string ⟨#[]⟩,.string ⟨#[]⟩,.string ⟨#[]⟩,.int .i64 0,.int .i64 0,.slice none 0 0,.slice none 0 0] 59)=w1 at *
 refine wp_mono (av (Q:=aI _) (fun wx:World=>AtS wx w.heap.size bg og n c g b o cq nr k ba oa na ca r q1 c1 q2 c2) (fun i=>i == 13) (by kernel_rfl) ?_) (fun _ _ _ h=>aR h)
 generalize w1.drew=w2 at *
 refine af (i:=0) (v:=?vv1) rfl (by kernel_rfl) (fun _ _ _ h=>h) rfl ?hy1 ?rest1
 case hy1=>(intro wy;go_simp;try with_reducible rfl)
 try simp only [Act.put,B_,BZ,B6,BV,BY,BW]
 refine af (i:=2) (v:=?vv2) rfl (by kernel_rfl) (fun _ _ _ h=>h) rfl ?hy2 ?rest2
 case hy2=>(intro wy;go_simp;try with_reducible rfl)
 try simp only [Act.put,B_,BZ,B6,BV,BY,BW]
 refine af (i:=6) (v:=?vv3) rfl (by kernel_rfl) (fun _ _ _ h=>h) rfl ?hy3 ?rest3
 case hy3=>(intro wy;go_simp;try with_reducible rfl)
 try simp only [Act.put,B_,BZ,B6,BV,BY,BW]
 refine af (i:=8) (v:=?vv4) rfl (by kernel_rfl) (fun _ _ _ h=>h) rfl ?hy4 ?rest4
 case hy4=>(intro wy;go_simp;try with_reducible rfl)
 try simp only [Act.put,B_,BZ,B6,BV,BY,BW]
 refine am (i:=1) (v:=?vvA) rfl (by kernel_rfl) (fun _ _ _ h=>h) rfl hS ?hyA ?restA
 case hyA =>
  intro wy hy
  have e0:=hy.sy;have e1:=hy.gu;have e2:=hy.st;have e3:=hy.al
  have d0:=hy.R.d0;have d1:=hy.R.d1;have d2:=hy.R.d2;have d3:=hy.R.d3;have d4:=hy.R.d4;have d5:=hy.R.d5;have d6:=hy.R.d6
  clear hy
  go_simp
  try with_reducible rfl
 try simp only [Act.put,B_,BZ,B6,BV,BY,BW]
 refine am (i:=7) (v:=?vvB) rfl (by kernel_rfl) (fun _ _ _ h=>h) rfl hS ?hyB ?restB
 case hyB =>
  intro wy hy
  have e0:=hy.sy;have e1:=hy.gu;have e2:=hy.st;have e3:=hy.al
  have d0:=hy.R.d0;have d1:=hy.R.d1;have d2:=hy.R.d2;have d3:=hy.R.d3;have d4:=hy.R.d4;have d5:=hy.R.d5;have d6:=hy.R.d6
  clear hy
  go_simp
  try with_reducible rfl
 try simp only [Act.put,B_,BZ,B6,BV,BY,BW]
 refine af (i:=3) (v:=?vv5) rfl (by kernel_rfl) (fun _ _ _ h=>h) rfl ?hy5 ?rest5
 case hy5=>(intro wy;go_simp;try with_reducible rfl)
 try simp only [Act.put,B_,BZ,B6,BV,BY,BW]
 refine af (i:=4) (v:=?vv6) rfl (by kernel_rfl) (fun _ _ _ h=>h) rfl ?hy6 ?rest6
 case hy6=>(intro wy;go_simp;try with_reducible rfl)
 try simp only [Act.put,B_,BZ,B6,BV,BY,BW]
 refine am (i:=5) (v:=?vvC) rfl (by kernel_rfl) (fun _ _ _ h=>h) rfl hS ?hyC ?restC
 case hyC =>
  intro wy hy
  have e0:=hy.sy;have e1:=hy.gu;have e2:=hy.st;have e3:=hy.al
  have d0:=hy.R.d0;have d1:=hy.R.d1;have d2:=hy.R.d2;have d3:=hy.R.d3;have d4:=hy.R.d4;have d5:=hy.R.d5;have d6:=hy.R.d6
  clear hy
  go_simp
  try with_reducible rfl
 try simp only [Act.put,B_,BZ,B6,BV,BY,BW]
 refine af (i:=9) (v:=?vv7) rfl (by kernel_rfl) (fun _ _ _ h=>h) rfl ?hy7 ?rest7
 case hy7=>(intro wy;go_simp;try with_reducible rfl)
 try simp only [Act.put,B_,BZ,B6,BV,BY,BW]
 refine am (i:=10) (v:=?vvD) rfl (by kernel_rfl) (fun _ _ _ h=>h) rfl hS ?hyD ?restD
 case hyD =>
  intro wy hy
  have e0:=hy.sy;have e1:=hy.gu;have e2:=hy.st;have e3:=hy.al
  have d0:=hy.R.d0;have d1:=hy.R.d1;have d2:=hy.R.d2;have d3:=hy.R.d3;have d4:=hy.R.d4;have d5:=hy.R.d5;have d6:=hy.R.d6
  clear hy
  go_simp
  try with_reducible rfl
 try simp only [Act.put,B_,BZ,B6,BV,BY,BW]
 refine af (i:=11) (v:=?vv8) rfl (by kernel_rfl) (fun _ _ _ h=>h) rfl ?hy8 ?rest8
 case hy8=>(intro wy;go_simp;try with_reducible rfl)
 try simp only [Act.put,B_,BZ,B6,BV,BY,BW]
 refine am (i:=12) (v:=?vvE) rfl (by kernel_rfl) (fun _ _ _ h=>h) rfl hS ?hyE ?restE
 case hyE =>
  intro wy hy
  have e0:=hy.sy;have e1:=hy.gu;have e2:=hy.st;have e3:=hy.al
  have d0:=hy.R.d0;have d1:=hy.R.d1;have d2:=hy.R.d2;have d3:=hy.R.d3;have d4:=hy.R.d4;have d5:=hy.R.d5;have d6:=hy.R.d6
  clear hy
  go_simp
  try with_reducible rfl
 try simp only [Act.put,B_,BZ,B6,BV,BY,BW]
 clear hS
 have hP:ee w2 (yz w2 (w.heap.size+1+1) (.string r.name) (.string r.next) (.string r.back) (.int .i64 r.tries) (.int .i64 r.minutes) (.slice q1 r.needs.length c1) (.slice q2 r.loops.length c2)) (w.heap.size+1+1) _ #[.string r.name,.string r.next,.string r.back,.int .i64 r.tries,.int .i64 r.minutes,.slice q1 r.needs.length c1,.slice q2 r.loops.length c2]:=vN hr2
 have hB:=hbd.trans (hP.below w.heap.size (by omega))
 have z0:=aa hr2 0
 have z1:=aa hr2 1
 have z2:=aa hr2 2
 have z3:=aa hr2 3
 have z4:=aa hr2 4
 have z5:=aa hr2 5
 have z6:=aa hr2 6
 have f0:=frozen_of_row w2 (w.heap.size+1+1) 0 _ _ hr2
 have f1:=frozen_of_row w2 (w.heap.size+1+1) 1 _ _ hr2
 have f2:=frozen_of_row w2 (w.heap.size+1+1) 2 _ _ hr2
 have f3:=frozen_of_row w2 (w.heap.size+1+1) 3 _ _ hr2
 have f4:=frozen_of_row w2 (w.heap.size+1+1) 4 _ _ hr2
 have f5:=frozen_of_row w2 (w.heap.size+1+1) 5 _ _ hr2
 have f6:=frozen_of_row w2 (w.heap.size+1+1) 6 _ _ hr2
 refine an (i:=13) rfl (by kernel_rfl) rfl (fun K hK=>?_)
 go_simp
 change K _ (yz w2 (w.heap.size+1+1) (.string r.name) (.string r.next) (.string r.back) (.int .i64 r.tries) (.int .i64 r.minutes) (.slice q1 r.needs.length c1) (.slice q2 r.loops.length c2))
 refine hK _ _ (fun h=>by cases h) ?_
 clear hK K z0 f0 z1 f1 z2 f2 z3 f3 z4 f4 z5 f5 z6 f6
 try simp only [Act.put,B_,BZ,B6,BV,BY,BW]
 refine aA (by kernel_rfl) ?_ _
 simp only [aI]
 go_wp2_with fail
 (try simp only [Exit.inBlock,Exit.then])
 refine bodyPost_ret (results_cell_row rfl _ _ (w.heap.size+1+1) _ _ (0,0) _ rfl hP.row Tryz.underlying59 rfl (by kernel_rfl)) rfl ?_
 exact ⟨rfl,hB⟩
theorem aZ.at? {w:World} {p:Option Addr} {n c:Nat} {l:List Int} (h:aZ w (.slice p n c) l) {j:Nat} {z:Int} (hj:l[j]?=some z):∃ b o,p=some ⟨b,o,none⟩∧n=l.length∧j<n∧b<w.heap.size∧w.cell? ⟨b,o+j,none⟩=some (.int .i64 z):=by
 obtain ⟨hjl,rfl⟩:=Cg.1 hj
 obtain ⟨b,o,c',e,hb,hc⟩:=h.get hjl
 simp only [Value.slice.injEq] at e
 obtain ⟨rfl,rfl,rfl⟩:=e
 exact ⟨b,o,rfl,rfl,hjl,hb,hc⟩
theorem aZ.len {w:World} {p:Option Addr} {n c:Nat} {l:List Int} (h:aZ w (.slice p n c) l):n=l.length:=by
 obtain ⟨p',c',e,_⟩:=h.at_
 simp only [Value.slice.injEq] at e
 exact e.2.1
theorem AR {gs:List Gd} {p pa pf:Option Addr} {c na ca nf cf:Nat} {al:List Int} {w:World} (hG:a8 w p gs) (hA:aZ w (.slice pa na ca) al) {g k:Nat} (hg:g<gs.length) (hal:al[g]?=some (k:Int)) (hk:k<(ag gs g).length) :
  ∃ q1 c1 q2 c2,eN w q1 (aM gs g k).needs∧fL w q2 (aM gs g k).loops∧∀ x:World,Below w.heap.size w x→Calls Tryz.prog 79 #[.agg #[.slice p gs.length c],.agg #[.slice pa na ca,.slice pf nf cf],.int .i64 g] x fun e w'=>e=.returned (.agg #[.string (aM gs g k).name,.string (aM gs g k).next,.string (aM gs g k).back,.int .i64 (aM gs g k).tries,.int .i64 (aM gs g k).minutes,.slice q1 (aM gs g k).needs.length c1,.slice q2 (aM gs g k).loops.length c2])∧Below x.heap.size x w':=by
 obtain ⟨bg,og,rfl,hbg,hcg⟩:=hG.at_ (by omega)
 obtain ⟨q,cq,e0,e1,hR⟩:=hcg g hg
 have hra:ag gs g=gs[g].rungs:=by unfold ag;rw [Cb hg]
 rw [←hra] at e1 hR
 obtain ⟨b,o,rfl,hb,hcs⟩:=hR.at_ (by omega)
 obtain ⟨q1,c1,q2,c2,hr⟩:=hcs _ hk
 rw [←ky hk] at hr
 obtain ⟨ba,oa,rfl,hna,hgn,hba,hca⟩:=hA.at? hal
 refine ⟨q1,c1,q2,c2,hr.n,hr.l,fun x hx=>?_⟩
 exact zJ x bg og gs.length c g b o cq _ _ ba oa na ca pf nf cf _ q1 c1 q2 c2 hg hk hgn (Cc hbg hx.size) (Cc hb hx.size) (Cc hba hx.size) ((hx.cell (p:=⟨bg,_,none⟩) hbg).trans e1) ((hx.cell (p:=⟨ba,_,none⟩) hba).trans hca) (hr.below hb hx)
theorem tK {gs:List Gd} {y:St} (hS:bf gs=true) (hy:(ai gs).At y) {g:Nat} (hg:g<gs.length):(atL gs.length y)[g]?=some (((y.a g).toNat:Nat):Int)∧(y.a g).toNat<(ag gs g).length:=by
 have ha:=hy.a g hg
 have hM:(ai gs).rungs g=(ag gs g).length:=rfl
 rw [sj (cQ hS).2 y hg]
 exact ⟨by rw [Int.toNat_of_nonneg ha.1],by omega⟩
theorem l_ {gs:List Gd} {p pa pf:Option Addr} {c na ca nf cf:Nat} {y:St} {w:World} (hG:a8 w p gs) (hA:aZ w (.slice pa na ca) (atL gs.length y)) (hS:bf gs=true) (hy:(ai gs).At y) {g:Nat} (hg:g<gs.length) :
  ∃ q1 c1 q2 c2,eN w q1 (aM gs g (y.a g).toNat).needs∧fL w q2 (aM gs g (y.a g).toNat).loops∧∀ x:World,Below w.heap.size w x→Calls Tryz.prog 79 #[.agg #[.slice p gs.length c],.agg #[.slice pa na ca,.slice pf nf cf],.int .i64 g] x fun e w'=>e=.returned (.agg #[.string (aM gs g (y.a g).toNat).name,.string (aM gs g (y.a g).toNat).next,.string (aM gs g (y.a g).toNat).back,.int .i64 (aM gs g (y.a g).toNat).tries,.int .i64 (aM gs g (y.a g).toNat).minutes,.slice q1 (aM gs g (y.a g).toNat).needs.length c1,.slice q2 (aM gs g (y.a g).toNat).loops.length c2])∧Below x.heap.size x w' :=
 AR hG hA hg (tK hS hy hg).1 (tK hS hy hg).2
end Go.Proofs.YtnkgbocdpngldaaGreatDoor

namespace Go.Proofs.YtnkgbocdpngldaaGreatDoor
open Go.RowKit Dc Dg
theorem uU (w:World) (a b d:ByteArray) (t m:Int) (q1:Option Addr) (n1 c1:Nat) (q2:Option Addr) (n2 c2:Nat):(Instr.field 59 (.agg #[.string a,.string b,.string d,.int .i64 t,.int .i64 m,.slice q1 n1 c1,.slice q2 n2 c2]) 0).run Tryz.prog w=.ok (.string a) w:=by kernel_rfl
theorem uV (w:World) (a b d:ByteArray) (t m:Int) (q1:Option Addr) (n1 c1:Nat) (q2:Option Addr) (n2 c2:Nat):(Instr.field 59 (.agg #[.string a,.string b,.string d,.int .i64 t,.int .i64 m,.slice q1 n1 c1,.slice q2 n2 c2]) 2).run Tryz.prog w=.ok (.string d) w:=by kernel_rfl
theorem uW (w:World) (a b d:ByteArray) (t m:Int) (q1:Option Addr) (n1 c1:Nat) (q2:Option Addr) (n2 c2:Nat):(Instr.field 59 (.agg #[.string a,.string b,.string d,.int .i64 t,.int .i64 m,.slice q1 n1 c1,.slice q2 n2 c2]) 4).run Tryz.prog w=.ok (.int .i64 m) w:=by kernel_rfl
def oH (gs:List Gd) (y:St) (n:Nd):Bool:=(gg gs n).2.contains (y.a (gg gs n).1)
theorem xK (gs:List Gd) (y:St) (g:Nat):ed (ai gs) y g=(aM gs g (y.a g).toNat).needs.all (oH gs y):=by
 show ((aM gs g (y.a g).toNat).needs.map (gg gs)).all _=_
 rw [List.all_map]
 rfl
theorem tj {gs:List Gd} (hS:bf gs=true) {g k:Nat} (hg:g<gs.length) (hk:k<(ag gs g).length):aF (ag gs g) (aM gs g k).name.data.toList=(k:Int):=by
 have h:=ej (bI hS hg) hk
 unfold bL cO at h
 simp only [Ce,decide_eq_true_eq] at h
 exact h.1.1.1.1.1.2
theorem vE {gs:List Gd} {y:St} {g k:Nat} (hS:bf gs=true) (hy:(ai gs).At y) (hg:g<gs.length) (hk:k<(aM gs g (y.a g).toNat).needs.length) :
  ∃ q:Nat,(aM gs g (y.a g).toNat).needs[k].guard=(q:Int)∧q<gs.length∧(aM gs g (y.a g).toNat).needs[k].rungs.length≤8∧decide (dj (aM gs g (y.a g).toNat).needs[k].rungs (aM gs q (y.a q).toNat).name.data.toList 0<0)=!oH gs y (aM gs g (y.a g).toNat).needs[k]:=by
 have ha:=hy.a g hg
 have hM:(ai gs).rungs g=(ag gs g).length:=rfl
 obtain ⟨_,hf⟩:=ku hS hg (show (y.a g).toNat<(ag gs g).length by omega)
 obtain ⟨f1,f2,f3⟩:=hf k hk
 obtain ⟨q,hq⟩:∃ q:Nat,(aM gs g (y.a g).toNat).needs[k].guard=(q:Int):=⟨(aM gs g (y.a g).toNat).needs[k].guard.toNat,by omega⟩
 have hqg:q<gs.length:=by omega
 have haq:=hy.a q hqg
 have hMq:(ai gs).rungs q=(ag gs q).length:=rfl
 refine ⟨q,hq,hqg,f3,?_⟩
 rw [kC]
 congr 1
 obtain ⟨j,hj⟩:∃ j:Nat,y.a q=(j:Int):=⟨(y.a q).toNat,by omega⟩
 have hself:=tj hS hqg (show j<(ag gs q).length by omega)
 unfold oH gg
 simp only [hq,CF,hj]
 rw [C5,Eb,List.contains_iff_mem,CM]
 constructor
 ·rintro ⟨s,hs,he⟩
  have he:=of_decide_eq_true he
  exact ⟨s,hs,by rw [he,hself]⟩
 ·rintro ⟨s,hs,he⟩
  obtain ⟨h3,h4⟩:=m_ he
  exact ⟨s,hs,decide_eq_true (by rw [ky h3,h4])⟩
theorem y_ {α:Type} {l:List α} {f:α→Bool} {i:Nat} (hi:i<l.length) (h:(l.take i).all f=true) (h2:f l[i]=true):(l.take (i+1)).all f=true:=by
 rw [CG,Cb hi,Dt,h]
 simpa using h2
theorem zG {α:Type} {l:List α} {f:α→Bool} {i:Nat} (hi:i<l.length) (h2:f l[i]=false):l.all f=false:=by
 rw [Dr]
 exact ⟨l[i],Cs hi,by rw [h2];exact Cm⟩
structure SB (w0 w:World) (k0:Nat) (gs:List Gd) (p:Option Addr) (c:Nat) (pa:Option Addr) (na ca:Nat) (pf:Option Addr) (nf cf:Nat) (al fl:List Int):Prop where
 s0:w.heap[k0]?=some (.cells #[.slice p gs.length c] 24 (0,0))
 s1:w.heap[k0+1]?=some (.cells #[.slice pa na ca,.slice pf nf cf] 41 (0,0))
 P:fk w p c gs
 ia:aZ w (.slice pa na ca) al
 jf:aZ w (.slice pf nf cf) fl
 bl:Below w0.heap.size w0 w
theorem SB.below {w0 w w':World} {k0:Nat} {gs:List Gd} {p:Option Addr} {c:Nat} {pa:Option Addr} {na ca:Nat} {pf:Option Addr} {nf cf:Nat} {al fl:List Int} (h:SB w0 w k0 gs p c pa na ca pf nf cf al fl) (hb:Below w.heap.size w w'):SB w0 w' k0 gs p c pa na ca pf nf cf al fl :=
 ⟨(hb.block _ (ac h.s0)).trans h.s0,(hb.block _ (ac h.s1)).trans h.s1,h.P.below hb,h.ia.below hb,h.jf.below hb,h.bl.trans (hb.mono h.bl.size)⟩
theorem SB.new {w:World} {gs:List Gd} {p:Option Addr} {c:Nat} {pa:Option Addr} {na ca:Nat} {pf:Option Addr} {nf cf:Nat} {al fl:List Int} (hP:fk w p c gs) (hA:aZ w (.slice pa na ca) al) (hF:aZ w (.slice pf nf cf) fl) :
  SB w ((w.alloc (.cells #[.slice p gs.length c] 24)).alloc (.cells #[.slice pa na ca,.slice pf nf cf] 41)) w.heap.size gs p c pa na ca pf nf cf al fl:=by
 have h:=iD w (.cells #[.slice p gs.length c] 24) (.cells #[.slice pa na ca,.slice pf nf cf] 41)
 exact ⟨h.s0,h.s1,hP.below h.below,hA.below h.below,hF.below h.below,h.below⟩
theorem SB.c0 {w0 w:World} {k0:Nat} {gs:List Gd} {p:Option Addr} {c:Nat} {pa:Option Addr} {na ca:Nat} {pf:Option Addr} {nf cf:Nat} {al fl:List Int} (h:SB w0 w k0 gs p c pa na ca pf nf cf al fl):w.cell? ⟨k0,0,none⟩=some (.slice p gs.length c):=aa h.s0 0
theorem SB.c1 {w0 w:World} {k0:Nat} {gs:List Gd} {p:Option Addr} {c:Nat} {pa:Option Addr} {na ca:Nat} {pf:Option Addr} {nf cf:Nat} {al fl:List Int} (h:SB w0 w k0 gs p c pa na ca pf nf cf al fl):w.cell? ⟨k0+1,0,none⟩=some (.slice pa na ca):=aa h.s1 0
theorem SB.c2 {w0 w:World} {k0:Nat} {gs:List Gd} {p:Option Addr} {c:Nat} {pa:Option Addr} {na ca:Nat} {pf:Option Addr} {nf cf:Nat} {al fl:List Int} (h:SB w0 w k0 gs p c pa na ca pf nf cf al fl):w.cell? ⟨k0+1,1,none⟩=some (.slice pf nf cf):=aa h.s1 1
structure SBr (w0 w:World) (k0:Nat) (gs:List Gd) (p:Option Addr) (c:Nat) (pa:Option Addr) (na ca:Nat) (pf:Option Addr) (nf cf:Nat) (al fl:List Int) (kr:Nat) (r:Rg) (q1:Option Addr) (c1:Nat) (q2:Option Addr) (c2:Nat):Prop where
 B:SB w0 w k0 gs p c pa na ca pf nf cf al fl
 rr:w.heap[kr]?=some (.cells #[.string r.name,.string r.next,.string r.back,.int .i64 r.tries,.int .i64 r.minutes,.slice q1 r.needs.length c1,.slice q2 r.loops.length c2] 59 (0,0))
 N:eN w q1 r.needs
theorem SBr.below {w0 w w':World} {k0:Nat} {gs:List Gd} {p:Option Addr} {c:Nat} {pa:Option Addr} {na ca:Nat} {pf:Option Addr} {nf cf:Nat} {al fl:List Int} {kr:Nat} {r:Rg} {q1:Option Addr} {c1:Nat} {q2:Option Addr} {c2:Nat} (h:SBr w0 w k0 gs p c pa na ca pf nf cf al fl kr r q1 c1 q2 c2) (hb:Below w.heap.size w w'):SBr w0 w' k0 gs p c pa na ca pf nf cf al fl kr r q1 c1 q2 c2 :=
 ⟨h.B.below hb,(hb.block _ (ac h.rr)).trans h.rr,h.N.below hb⟩
theorem xL (gs:List Gd) (p:Option Addr) (c:Nat) (pa:Option Addr) (na ca:Nat) (pf:Option Addr) (nf cf:Nat) (y:St) (fl:List Int) (g:Nat) (w:World) (hP:fk w p c gs) (hA:aZ w (.slice pa na ca) (atL gs.length y)) (hF:aZ w (.slice pf nf cf) fl) (hS:bf gs=true) (hy:(ai gs).At y) (hg:g<gs.length) :
  Calls Tryz.prog 96 #[.agg #[.slice p gs.length c],.agg #[.slice pa na ca,.slice pf nf cf],.int .i64 g] w fun e w'=>e=.returned (.bool (ed (ai gs) y g))∧Below w.heap.size w w':=by
 have S0:=SB.new hP hA hF
 obtain ⟨q1,c1,q2,c2,hN,_,HC⟩:=l_ (pf:=pf) (nf:=nf) (cf:=cf) (c:=c) S0.P.G S0.ia hS hy hg
 have HA:=B8 (xK gs y g)
 have HW:=B8 (fun k hk=>vE (k:=k) hS hy hg hk)
 have HC:=B8 HC
 have HSy:=B8 (And.intro hS hy)
 obtain ⟨n3,_⟩:=ku hS hg (show (y.a g).toNat<(ag gs g).length by have h1:=hy.a g hg;have h2:(ai gs).rungs g=(ag gs g).length:=rfl;omega)
 clear hP hA hF hS hy
 generalize aM gs g (y.a g).toNat=r at *
 go_enter Tryz.func96,Tryz.ntmps96
 go_upto_region 1 with fail
 generalize (w.alloc (.cells #[.slice p gs.length c] 24)).alloc (.cells #[.slice pa na ca,.slice pf nf cf] 41)=w1 at *
 have x0:=S0.c0;have x1:=S0.c1;have x2:=S0.c2
 go_wp2_with fail
 refine (HC.out w1 (Below.refl _ _)).mono ?_
 rintro e w2 ⟨rfl,hb2⟩
 have S2:=S0.below hb2
 have N2:=hN.below hb2
 have l3:=bc w2 (.cells #[.string r.name,.string r.next,.string r.back,.int .i64 r.tries,.int .i64 r.minutes,.slice q1 r.needs.length c1,.slice q2 r.loops.length c2] 59)
 have S3:SBr w (w2.alloc (.cells #[.string r.name,.string r.next,.string r.back,.int .i64 r.tries,.int .i64 r.minutes,.slice q1 r.needs.length c1,.slice q2 r.loops.length c2] 59)) w.heap.size gs p c pa na ca pf nf cf (atL gs.length y) fl w2.heap.size r q1 c1 q2 c2:=⟨S2.below l3.below,l3.s0,N2.below l3.below⟩
 clear S0 S2 hN N2 HC hb2 l3 x0 x1 x2
 go_upto_region 2 with fail
 generalize w2.alloc (.cells #[.string r.name,.string r.next,.string r.back,.int .i64 r.tries,.int .i64 r.minutes,.slice q1 r.needs.length c1,.slice q2 r.loops.length c2] 59)=w3 at *
 generalize w2.heap.size=kr at *
 go_wp2_with fail
 go_loopw [8] (fun s8 wx=>∃ j:Nat,s8=.int .i64 j∧j≤r.needs.length∧SBr w wx w.heap.size gs p c pa na ca pf nf cf (atL gs.length y) fl kr r q1 c1 q2 c2∧Hid ((r.needs.take j).all (oH gs y)=true)) (fun s8 _=>r.needs.length-(intOf s8).toNat)
 case atStart=>exact ⟨0,rfl,by omega,S3,rfl⟩
 case round =>
  clear S3
  obtain ⟨j,rfl,hj,S3,hx⟩:=hrel
  have r5:wr.cell? ⟨kr,5,none⟩=some (.slice q1 r.needs.length c1):=aa S3.rr 5
  by_cases hjl:j<r.needs.length
  ·obtain ⟨nb,no,rfl,hnb,hnc⟩:=S3.N.at_ (by omega)
   obtain ⟨qn,cn,m0,m1,hWn⟩:=hnc j hjl
   obtain ⟨q,hq,hqg,h8,hwd⟩:=HW.out j hjl
   obtain ⟨nd,hnd⟩:∃ nd,nd=r.needs[j]:=⟨_,rfl⟩
   rw [←hnd] at m0 m1 hWn hq h8 hwd
   rw [hq] at m0
   have HND:=B8 hnd
   clear hnd hnc
   have hl4:=bc wr (.cells #[.int .i64 q,.slice qn nd.rungs.length cn] 65)
   have S4:=S3.below hl4.below
   have HW4:=B8 (hWn.below hl4.below)
   have hrA:=hl4.s0
   obtain ⟨q1',c1',q2',c2',_,_,HC⟩:=l_ (pf:=pf) (nf:=nf) (cf:=cf) (c:=c) S4.B.P.G S4.B.ia HSy.out.1 HSy.out.2 hqg
   go_upto_region 6 with fail
   clear m0 m1 hWn hl4 S3 r5 hq
   generalize wr.alloc (.cells #[.int .i64 q,.slice qn nd.rungs.length cn] 65)=wa at *
   generalize wr.heap.size=gn at *
   have y0:∀ x:ah wa,x.w.cell? ⟨w.heap.size,0,none⟩=some (.slice p gs.length c):=fun x=>(x.cell (ac S4.B.s0)).trans S4.B.c0
   have y1:∀ x:ah wa,x.w.cell? ⟨w.heap.size+1,0,none⟩=some (.slice pa na ca):=fun x=>(x.cell (ac S4.B.s1)).trans S4.B.c1
   have y2:∀ x:ah wa,x.w.cell? ⟨w.heap.size+1,1,none⟩=some (.slice pf nf cf):=fun x=>(x.cell (ac S4.B.s1)).trans S4.B.c2
   have y3:∀ x:ah wa,x.w.cell? ⟨gn,0,none⟩=some (.int .i64 q):=fun x=>(x.cell (ac hrA)).trans (aa hrA 0)
   have y4:∀ x:ah wa,x.w.cell? ⟨gn,1,none⟩=some (.slice qn nd.rungs.length cn):=fun x=>(x.cell (ac hrA)).trans (aa hrA 1)
   generalize aM gs q (y.a q).toNat=rq at *
   have HI:Hid (∀ x:ah wa,Calls Tryz.prog 79 #[.agg #[.slice p gs.length c],.agg #[.slice pa na ca,.slice pf nf cf],.int .i64 q] x.w fun e w''=>e=.returned (.agg #[.string rq.name,.string rq.next,.string rq.back,.int .i64 rq.tries,.int .i64 rq.minutes,.slice q1' rq.needs.length c1',.slice q2' rq.loops.length c2'])∧∃ z:ah wa,w''=z.w):=fun x=>ah.calls (HC x.w x.h)
   have HM:Hid (∀ x:ah wa,Calls Tryz.prog 30 #[.slice qn nd.rungs.length cn,.string rq.name] x.w fun e w''=>e=.returned (.int .i64 (dj nd.rungs rq.name.data.toList 0))∧∃ z:ah wa,w''=z.w):=fun x=>(pA qn cn nd.rungs rq.name x.w (HW4.out.below x.h) (by omega)).mono fun _ _ ⟨h,e⟩=>⟨h,x,e⟩
   obtain ⟨z,hz⟩:∃ z,z=dj nd.rungs rq.name.data.toList 0:=⟨_,rfl⟩
   rw [←hz] at HM hwd
   have hfd:=fun wx:World=>uU wx rq.name rq.next rq.back rq.tries rq.minutes q1' rq.needs.length c1' q2' rq.loops.length c2'
   clear hz HC HW4 hrA
   cases hb:oH gs y nd
   ·have hd:decide (z<0)=true:=by rw [hwd,hb];rfl
    have HF:Hid (ed (ai gs) y g=false):=by unfold Hid;rw [HA.out];exact zG hjl (by rw [←HND.out];exact hb)
    clear hb hwd
    refine aj (by kernel_rfl) (by kernel_rfl) ?_
    repeat (go_big_quiet_step ((first | (go_at_call 79;with_reducible exact HI.out _) | (go_at_call 30;with_reducible exact HM.out _))))
    refine wpQuiet_nil ?_
    rintro _ ⟨⟨w5,hbN⟩,rfl⟩
    have S6:=S4.below hbN
    clear HM HI y0 y1 y2 y3 y4 S4 hbN hfd
    go_wp2
    go_ret
    exact ⟨by rw [HF.out];rfl,S6.B.bl⟩
   ·have hd:decide (z<0)=false:=by rw [hwd,hb];rfl
    have HF:Hid ((r.needs.take (j+1)).all (oH gs y)=true):=y_ hjl hx.out (by rw [←HND.out];exact hb)
    clear hb hwd
    refine aj (by kernel_rfl) (by kernel_rfl) ?_
    repeat (go_big_quiet_step ((first | (go_at_call 79;with_reducible exact HI.out _) | (go_at_call 30;with_reducible exact HM.out _))))
    refine wpQuiet_nil ?_
    rintro _ ⟨⟨w5,hbN⟩,rfl⟩
    have S6:=S4.below hbN
    clear HM HI y0 y1 y2 y3 y4 S4 hbN hfd
    go_wp2
    go_roundw
    case rel=>exact ⟨j+1,by go_num,by omega,S6,HF⟩
    case measure=>simp [intOf];omega
  ·obtain rfl:j=r.needs.length:=by omega
   have HF:Hid (ed (ai gs) y g=true):=by unfold Hid;rw [HA.out];have:=hx.out;rwa [CH] at this
   clear hjl hj hx
   go_wp2
   go_ret
   exact ⟨by rw [HF.out];rfl,S3.B.bl⟩
end Go.Proofs.YtnkgbocdpngldaaGreatDoor
