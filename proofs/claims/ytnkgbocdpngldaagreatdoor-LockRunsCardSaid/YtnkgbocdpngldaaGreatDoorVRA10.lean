/-
  Texts of this claim: RA10, RA11, MachW, RM1, RA12.
-/
import Derived.Test.YtnkgbocdpngldaaGreatDoorVMach
import Derived.Test.YtnkgbocdpngldaaGreatDoorVSta1
import Derived.Test.YtnkgbocdpngldaaGreatDoorVA
set_option linter.unusedVariables false
set_option linter.unusedSimpArgs false
set_option maxRecDepth 100000
set_option maxHeartbeats 8000000

namespace Go.Proofs.YtnkgbocdpngldaaGreatDoor
open Go.RowKit Dc Dg
theorem kp (pa:Option Addr) (na ca:Nat) (pf:Option Addr) (nf cf:Nat) (al fl:List Int) (g:Nat) (k:Int) (w:World) (hA:aZ w (.slice pa na ca) al) (hF:aZ w (.slice pf nf cf) fl) (hqa:pa=none→ca=0) (hqf:pf=none→cf=0) (hla:al.length≤1000) (hlf:fl.length≤1000) (hg:g<al.length) (hgf:g<fl.length) :
  Calls Tryz.prog 97 #[.agg #[.slice pa na ca,.slice pf nf cf],.int .i64 g,.int .i64 k] w fun e w'=>∃ u1 u2,e=.returned (.agg #[u1,u2])∧cI w.heap.size w' u1 u2 (al.set g k) (fl.set g 0)∧Below w.heap.size w w':=by
 have hl:=iD w (.cells #[.slice pa na ca,.slice pf nf cf] 41) (.cells #[.slice none 0 0,.slice none 0 0] 41)
 have S0:OwS w ((w.alloc (.cells #[.slice pa na ca,.slice pf nf cf] 41)).alloc (.cells #[.slice none 0 0,.slice none 0 0] 41)) pa na ca pf nf cf al fl:=⟨hl.s0,hl.s1,hA.below hl.below,hF.below hl.below,hl.below⟩
 clear hA hF hl
 go_enter Tryz.func97,Tryz.ntmps97
 go_upto_region 1 with fail
 generalize (w.alloc (.cells #[.slice pa na ca,.slice pf nf cf] 41)).alloc (.cells #[.slice none 0 0,.slice none 0 0] 41)=w1 at *
 have x0:w1.cell? ⟨w.heap.size,0,none⟩=some (.slice pa na ca):=aa S0.s0 0
 have x1:w1.cell? ⟨w.heap.size,1,none⟩=some (.slice pf nf cf):=aa S0.s0 1
 go_wp2_with fail
 refine (uf pa na ca pf nf cf al fl w1 S0.ia S0.jf hqa hqf (by omega) (by omega)).mono ?_
 rintro e w2 ⟨u1,u2,rfl,hL,hb2⟩
 have r0:=(hb2.block _ (ac S0.s0)).trans S0.s0
 have r1:=(hb2.block _ (ac S0.s1)).trans S0.s1
 have HB2:=S0.bl.trans (hb2.mono S0.bl.size)
 have hz1:=S0.bl.size
 obtain ⟨ga,c1,rfl,hga,hgaw⟩:=hL.a.some (by omega)
 obtain ⟨gf,c2,rfl,hgf2,hgfw⟩:=hL.f.some (by omega)
 have hs1:=ac S0.s1
 clear S0 x0 x1 hb2
 have y0:=aa r0 0
 have y1:=aa r0 1
 have f0:=frozen_of_row w2 w.heap.size 0 _ _ r0
 have f1:=frozen_of_row w2 w.heap.size 1 _ _ r0
 have HP:ee w2 (cm w2 w.heap.size (.slice (some ⟨ga,0,none⟩) al.length c1) (.slice (some ⟨gf,0,none⟩) fl.length c2)) w.heap.size _ #[.slice (some ⟨ga,0,none⟩) al.length c1,.slice (some ⟨gf,0,none⟩) fl.length c2]:=aU r0
 have hL3:=hL.put (u1:=.slice (some ⟨ga,0,none⟩) al.length c1) (u2:=.slice (some ⟨gf,0,none⟩) fl.length c2) r0 (by decide)
 have hB3:=HB2.trans (HP.below w.heap.size (by omega))
 have t0:=HP.row
 have t1:=(HP.other (w.heap.size+1) (by omega)).trans r1
 clear HB2 hL r0 r1
 go_upto_region 2 with fail
 change _ at *
 generalize hw3:cm w2 w.heap.size (.slice (some ⟨ga,0,none⟩) al.length c1) (.slice (some ⟨gf,0,none⟩) fl.length c2)=w3 at *
 unfold cm at hw3
 rw [hw3]
 clear hw3 HP y0 y1 f0 f1
 have y0:=aa t0 0
 have y1:=aa t0 1
 obtain ⟨za,hza⟩:∃ z,al[g]?=some z:=⟨_,Cb hg⟩
 obtain ⟨zf,hzf⟩:∃ z,fl[g]?=some z:=⟨_,Cb hgf⟩
 have HZ:=B8 (And.intro hza hzf)
 have hgI:(g:Int)<(al.length:Int):=by omega
 have hgJ:(g:Int)<(fl.length:Int):=by omega
 clear hza hzf
 go_quiet (fail)
 obtain ⟨w4,hw4⟩:∃ x,x=w3.drewN nq:=⟨_,rfl⟩
 have hL4:cI w1.heap.size w4 (.slice (some ⟨ga,0,none⟩) al.length c1) (.slice (some ⟨gf,0,none⟩) fl.length c2) al fl:=by rw [hw4];exact hL3.below (below_drewN (Below.refl _ _) _)
 have hB4:Below w.heap.size w w4:=by rw [hw4];exact below_drewN hB3 _
 have k0:w4.heap[w.heap.size]?=some (.cells #[.slice (some ⟨ga,0,none⟩) al.length c1,.slice (some ⟨gf,0,none⟩) fl.length c2] 41 (0,0)):=by rw [hw4];exact t0
 have k1:w4.heap[w.heap.size+1]?=some (.cells #[.slice none 0 0,.slice none 0 0] 41 (0,0)):=by rw [hw4];exact t1
 rw [←hw4]
 clear hw4 t0 t1 hL3 hB3 y0 y1
 have c3:=hL4.a.cellAt HZ.out.1
 have f3:=hL4.a.frozenAt g
 have hL5:=hL4.setA g k
 have hB5:Below w.heap.size w (w4.setCell ⟨ga,g,none⟩ (.int .i64 k)):=hB4.setCell (p:=⟨ga,g,none⟩) (by show w.heap.size≤ga;omega) _
 have k0':(w4.setCell ⟨ga,g,none⟩ (.int .i64 k)).heap[w.heap.size]?=some (.cells #[.slice (some ⟨ga,0,none⟩) al.length c1,.slice (some ⟨gf,0,none⟩) fl.length c2] 41 (0,0)):=(heap_setCell_other _ _ _ _ (by show w.heap.size≠ga;omega)).trans k0
 have k1':(w4.setCell ⟨ga,g,none⟩ (.int .i64 k)).heap[w.heap.size+1]?=some (.cells #[.slice none 0 0,.slice none 0 0] 41 (0,0)):=(heap_setCell_other _ _ _ _ (by show w.heap.size+1≠ga;omega)).trans k1
 clear hL4 hB4 k0 k1
 go_upto_region 4 with fail
 clear c3 f3
 generalize w4.setCell ⟨ga,g,none⟩ (.int .i64 k)=w5 at *
 have c4:=hL5.f.cellAt HZ.out.2
 have f4:=hL5.f.frozenAt g
 have hL6:=hL5.setF g 0
 have hB6:Below w.heap.size w (w5.setCell ⟨gf,g,none⟩ (.int .i64 0)):=hB5.setCell (p:=⟨gf,g,none⟩) (by show w.heap.size≤gf;omega) _
 have k0:(w5.setCell ⟨gf,g,none⟩ (.int .i64 0)).heap[w.heap.size]?=some (.cells #[.slice (some ⟨ga,0,none⟩) al.length c1,.slice (some ⟨gf,0,none⟩) fl.length c2] 41 (0,0)):=(heap_setCell_other _ _ _ _ (by show w.heap.size≠gf;omega)).trans k0'
 have k1:(w5.setCell ⟨gf,g,none⟩ (.int .i64 0)).heap[w.heap.size+1]?=some (.cells #[.slice none 0 0,.slice none 0 0] 41 (0,0)):=(heap_setCell_other _ _ _ _ (by show w.heap.size+1≠gf;omega)).trans k1'
 clear hL5 hB5 k0' k1'
 go_upto_region 5 with fail
 clear c4 f4
 generalize w5.setCell ⟨gf,g,none⟩ (.int .i64 0)=w6 at *
 have y0:=aa k0 0
 have y1:=aa k0 1
 have z0:=aa k1 0
 have z1:=aa k1 1
 have f0:=frozen_of_row w6 (w.heap.size+1) 0 _ _ k1
 have f1:=frozen_of_row w6 (w.heap.size+1) 1 _ _ k1
 have HP:ee w6 (cm w6 (w.heap.size+1) (.slice (some ⟨ga,0,none⟩) al.length c1) (.slice (some ⟨gf,0,none⟩) fl.length c2)) (w.heap.size+1) _ #[.slice (some ⟨ga,0,none⟩) al.length c1,.slice (some ⟨gf,0,none⟩) fl.length c2]:=aU k1
 have HL:=B8 (hL6.put (u1:=.slice (some ⟨ga,0,none⟩) al.length c1) (u2:=.slice (some ⟨gf,0,none⟩) fl.length c2) k1 (by decide))
 have HB:=hB6.trans (HP.below w.heap.size (by omega))
 go_wp2_with fail
 (try simp only [Exit.inBlock,Exit.then])
 refine bodyPost_ret (results_cell_row rfl _ _ (w.heap.size+1) _ _ (0,0) _ rfl HP.row Tryz.underlying41 rfl (by kernel_rfl)) rfl ?_
 exact ⟨_,_,rfl,HL.out.base hz1,HB⟩
end Go.Proofs.YtnkgbocdpngldaaGreatDoor

namespace Go.Proofs.YtnkgbocdpngldaaGreatDoor
open Go.RowKit Dc Dg
theorem rY {n:Nat} (hn:n≤3):atL n St.zero=List.replicate n 0:=by
 have:n=0∨n=1∨n=2∨n=3:=by omega
 rcases this with rfl | rfl | rfl | rfl<;>rfl
theorem nM {n:Nat} (hn:n≤3):aO n St.zero=List.replicate n 0:=by
 have:n=0∨n=1∨n=2∨n=3:=by omega
 rcases this with rfl | rfl | rfl | rfl<;>rfl
theorem i6 {w:World} {o:Oper} {a:Act} {K:Act→World→Prop} {Q:Exit→Act→World→Prop} (l c:Operand) (hop:o.op=Op.makeSlice 39 l c) (n:Nat) (hl:a.eval l=.int .i64 n) (hc:a.eval c=.int .i64 n) (hn:n≤1000)
  (hK:∀ w',aK w.heap.size w' (.slice (some ⟨w.heap.size,0,none⟩) n n) (List.replicate n 0)→Below w.heap.size w w'→K (a.put o.dst (.slice (some ⟨w.heap.size,0,none⟩) n n)) w'):o.wp Tryz.prog a w K Q:=by
 obtain ⟨i0,hi,hz0,hz1,hz2⟩:=info_parts xP
 obtain ⟨w',hrun,r1,r2⟩:=run_make_full (P:=Tryz.prog) w w.heap.size 39 3 i0 (.int .i64 0) 1 Tryz.underlying39 hi hz0 hz1 .i64 .i64 n (by rw [hz2];omega) (by unfold maxLen;omega) (Ca _)
 unfold Oper.wp
 simp [execOp,hop,hl,hc,hrun,Result.andThen]
 refine hK w' ?_ ((Below.refl _ _).grown r2 (Ca _) (fun k hk=>by cases hk))
 have e:(madeCells (Value.int .i64 0).cells (n*1)).toList=(List.replicate n (0:Int)).map (Value.int .i64):=by
  rw [DG];simp [Value.cells,toList_madeCells_one]
 rw [e] at r1
 unfold aK
 rw [DI];exact r1
structure BgS (w0 w:World) (gs:List Gd) (p:Option Addr) (c:Nat):Prop where
 s0:w.heap[w0.heap.size]?=some (.cells #[.slice p gs.length c] 24 (0,0))
 s1:w.heap[w0.heap.size+1]?=some (.cells #[.slice none 0 0,.slice none 0 0] 41 (0,0))
 bl:Below w0.heap.size w0 w
theorem BgS.below {w0 w w':World} {gs:List Gd} {p:Option Addr} {c:Nat} (h:BgS w0 w gs p c) (hb:Below w.heap.size w w'):BgS w0 w' gs p c :=
 ⟨(hb.block _ (ac h.s0)).trans h.s0,(hb.block _ (ac h.s1)).trans h.s1,h.bl.trans (hb.mono h.bl.size)⟩
theorem uC (gs:List Gd) (p:Option Addr) (c:Nat) (w:World) (hn3:gs.length≤3) :
  Calls Tryz.prog 48 #[.agg #[.slice p gs.length c]] w fun e w'=>∃ u1 u2,e=.returned (.agg #[u1,u2])∧cI w.heap.size w' u1 u2 (atL gs.length St.zero) (aO gs.length St.zero)∧Below w.heap.size w w':=by
 have hl:=iD w (.cells #[.slice p gs.length c] 24) (.cells #[.slice none 0 0,.slice none 0 0] 41)
 have S0:BgS w ((w.alloc (.cells #[.slice p gs.length c] 24)).alloc (.cells #[.slice none 0 0,.slice none 0 0] 41)) gs p c:=⟨hl.s0,hl.s1,hl.below⟩
 have hS:=S0.below (below_drewN (Below.refl _ _) 1)
 clear hl S0
 go_enter Tryz.func48,Tryz.ntmps48
 go_upto_region 1 with fail
 generalize (w.alloc (.cells #[.slice p gs.length c] 24)).alloc (.cells #[.slice none 0 0,.slice none 0 0] 41)=w1 at *
 refine wp_mono (av (Q:=aI _) (fun wx:World=>BgS w wx gs p c) (fun i=>i == 9) (by kernel_rfl) ?_) (fun _ _ _ h=>aR h)
 change BgS w w1.drew gs p c at hS
 generalize w1.drew=w2 at *
 refine af (i:=0) (v:=?vv1) rfl (by kernel_rfl) (fun _ _ _ h=>h) rfl ?hy1 ?rest1
 case hy1=>(intro wy;go_simp;try with_reducible rfl)
 try simp only [Act.put,B_,BZ,B6,BV,BY,BW]
 refine af (i:=4) (v:=?vv2) rfl (by kernel_rfl) (fun _ _ _ h=>h) rfl ?hy2 ?rest2
 case hy2=>(intro wy;go_simp;try with_reducible rfl)
 try simp only [Act.put,B_,BZ,B6,BV,BY,BW]
 refine am (i:=1) (v:=?vvA) rfl (by kernel_rfl) (fun _ _ _ h=>h) rfl hS ?hyA ?restA
 case hyA =>
  intro wy hy
  have e0:=aa hy.s0 0
  clear hy
  go_simp
  try with_reducible rfl
 try simp only [Act.put,B_,BZ,B6,BV,BY,BW]
 refine am (i:=5) (v:=?vvB) rfl (by kernel_rfl) (fun _ _ _ h=>h) rfl hS ?hyB ?restB
 case hyB =>
  intro wy hy
  have e0:=aa hy.s0 0
  clear hy
  go_simp
  try with_reducible rfl
 try simp only [Act.put,B_,BZ,B6,BV,BY,BW]
 refine af (i:=2) (v:=?vv3) rfl (by kernel_rfl) (fun _ _ _ h=>h) rfl ?hy3 ?rest3
 case hy3=>(intro wy;go_simp;try with_reducible rfl)
 try simp only [Act.put,B_,BZ,B6,BV,BY,BW]
 refine af (i:=6) (v:=?vv4) rfl (by kernel_rfl) (fun _ _ _ h=>h) rfl ?hy4 ?rest4
 case hy4=>(intro wy;go_simp;try with_reducible rfl)
 try simp only [Act.put,B_,BZ,B6,BV,BY,BW]
 refine jv (i:=3) (i':=7) rfl rfl (by kernel_rfl) rfl rfl (fun K hK=>?_) (fun K hK=>?_)
 ·refine i6 _ _ rfl gs.length rfl rfl (by omega) ?_
  intro w4 hI1 hb4
  have hS4:=hS.below hb4
  refine hK _ _ (fun _ _=>hS4) ?_
  clear hK K
  try simp only [Act.put,B_,BZ,B6,BV,BY,BW]
  refine an (i:=7) rfl (by kernel_rfl) rfl (fun K hK=>?_)
  have hb2:=hS.bl.size
  clear hS
  have hS:=hS4
  clear hS4
  refine i6 _ _ rfl gs.length rfl rfl (by omega) ?_
  intro w6 hI2 hb6
  have hS6:=hS.below hb6
  refine hK _ _ (fun _ _=>hS6) ?_
  clear hK K
  try simp only [Act.put,B_,BZ,B6,BV,BY,BW]
  have hL:cI w.heap.size w6 (.slice (some ⟨w2.heap.size,0,none⟩) gs.length gs.length) (.slice (some ⟨w4.heap.size,0,none⟩) gs.length gs.length) (List.replicate gs.length 0) (List.replicate gs.length 0):=⟨(hI1.below hb6).base hb2,hI2.base hS.bl.size,fun k h1 h2=>by
   have a1:=(aw hI1 h1).2.1
   have a2:=(aw hI2 h2).1
   omega⟩
  clear hS hb4 hb6 hb2 hI1 hI2
  have hS:=hS6
  clear hS6
  refine af (i:=8) (v:=?vv5) rfl (by kernel_rfl) (fun _ _ _ h=>h) rfl ?hy5 ?rest5
  case hy5=>(intro wy;go_simp;try with_reducible rfl)
  try simp only [Act.put,B_,BZ,B6,BV,BY,BW]
  have hP:ee w6 (cm w6 (w.heap.size+1) (.slice (some ⟨w2.heap.size,0,none⟩) gs.length gs.length) (.slice (some ⟨w4.heap.size,0,none⟩) gs.length gs.length)) (w.heap.size+1) _ #[.slice (some ⟨w2.heap.size,0,none⟩) gs.length gs.length,.slice (some ⟨w4.heap.size,0,none⟩) gs.length gs.length]:=aU hS.s1
  have HL:=B8 (hL.put (u1:=.slice (some ⟨w2.heap.size,0,none⟩) gs.length gs.length) (u2:=.slice (some ⟨w4.heap.size,0,none⟩) gs.length gs.length) hS.s1 (by decide))
  have hB:=hS.bl.trans (hP.below w.heap.size (by omega))
  have c0:=aa hS.s1 0
  have c1:=aa hS.s1 1
  have f0:=frozen_of_row w6 (w.heap.size+1) 0 _ _ hS.s1
  have f1:=frozen_of_row w6 (w.heap.size+1) 1 _ _ hS.s1
  clear hS hL
  refine an (i:=9) rfl (by kernel_rfl) rfl (fun K hK=>?_)
  go_simp
  change K _ (cm w6 (w.heap.size+1) (.slice (some ⟨w2.heap.size,0,none⟩) gs.length gs.length) (.slice (some ⟨w4.heap.size,0,none⟩) gs.length gs.length))
  refine hK _ _ (fun h=>by cases h) ?_
  clear hK K c0 c1 f0 f1
  try simp only [Act.put,B_,BZ,B6,BV,BY,BW]
  refine aA (by kernel_rfl) ?_ _
  simp only [aI]
  go_wp2_with fail
  (try simp only [Exit.inBlock,Exit.then])
  refine bodyPost_ret (results_cell_row rfl _ _ (w.heap.size+1) _ _ (0,0) _ rfl hP.row Tryz.underlying41 rfl (by kernel_rfl)) rfl ?_
  exact ⟨_,_,rfl,by rw [rY hn3,nM hn3];exact HL.out,hB⟩
 ·refine i6 _ _ rfl gs.length rfl rfl (by omega) ?_
  intro w4 hI1 hb4
  have hS4:=hS.below hb4
  refine hK _ _ (fun _ _=>hS4) ?_
  clear hK K
  try simp only [Act.put,B_,BZ,B6,BV,BY,BW]
  refine an (i:=3) rfl (by kernel_rfl) rfl (fun K hK=>?_)
  have hb2:=hS.bl.size
  clear hS
  have hS:=hS4
  clear hS4
  refine i6 _ _ rfl gs.length rfl rfl (by omega) ?_
  intro w6 hI2 hb6
  have hS6:=hS.below hb6
  refine hK _ _ (fun _ _=>hS6) ?_
  clear hK K
  try simp only [Act.put,B_,BZ,B6,BV,BY,BW]
  have hL:cI w.heap.size w6 (.slice (some ⟨w4.heap.size,0,none⟩) gs.length gs.length) (.slice (some ⟨w2.heap.size,0,none⟩) gs.length gs.length) (List.replicate gs.length 0) (List.replicate gs.length 0):=⟨hI2.base hS.bl.size,(hI1.below hb6).base hb2,fun k h1 h2=>by
   have a1:=(aw hI2 h1).1
   have a2:=(aw hI1 h2).2.1
   omega⟩
  clear hS hb4 hb6 hb2 hI1 hI2
  have hS:=hS6
  clear hS6
  refine af (i:=8) (v:=?vv6) rfl (by kernel_rfl) (fun _ _ _ h=>h) rfl ?hy6 ?rest6
  case hy6=>(intro wy;go_simp;try with_reducible rfl)
  try simp only [Act.put,B_,BZ,B6,BV,BY,BW]
  have hP:ee w6 (cm w6 (w.heap.size+1) (.slice (some ⟨w4.heap.size,0,none⟩) gs.length gs.length) (.slice (some ⟨w2.heap.size,0,none⟩) gs.length gs.length)) (w.heap.size+1) _ #[.slice (some ⟨w4.heap.size,0,none⟩) gs.length gs.length,.slice (some ⟨w2.heap.size,0,none⟩) gs.length gs.length]:=aU hS.s1
  have HL:=B8 (hL.put (u1:=.slice (some ⟨w4.heap.size,0,none⟩) gs.length gs.length) (u2:=.slice (some ⟨w2.heap.size,0,none⟩) gs.length gs.length) hS.s1 (by decide))
  have hB:=hS.bl.trans (hP.below w.heap.size (by omega))
  have c0:=aa hS.s1 0
  have c1:=aa hS.s1 1
  have f0:=frozen_of_row w6 (w.heap.size+1) 0 _ _ hS.s1
  have f1:=frozen_of_row w6 (w.heap.size+1) 1 _ _ hS.s1
  clear hS hL
  refine an (i:=9) rfl (by kernel_rfl) rfl (fun K hK=>?_)
  go_simp
  change K _ (cm w6 (w.heap.size+1) (.slice (some ⟨w4.heap.size,0,none⟩) gs.length gs.length) (.slice (some ⟨w2.heap.size,0,none⟩) gs.length gs.length))
  refine hK _ _ (fun h=>by cases h) ?_
  clear hK K c0 c1 f0 f1
  try simp only [Act.put,B_,BZ,B6,BV,BY,BW]
  refine aA (by kernel_rfl) ?_ _
  simp only [aI]
  go_wp2_with fail
  (try simp only [Exit.inBlock,Exit.then])
  refine bodyPost_ret (results_cell_row rfl _ _ (w.heap.size+1) _ _ (0,0) _ rfl hP.row Tryz.underlying41 rfl (by kernel_rfl)) rfl ?_
  exact ⟨_,_,rfl,by rw [rY hn3,nM hn3];exact HL.out,hB⟩
theorem cI.r {B n:Nat} {w:World} {u1 u2:Value} {z:St} (h:cI B w u1 u2 (atL n z) (aO n z)):lh B n w (.agg #[u1,u2]) z:=⟨u1,u2,rfl,h.a,h.f⟩
end Go.Proofs.YtnkgbocdpngldaaGreatDoor

namespace Go.Proofs.YtnkgbocdpngldaaGreatDoor
def AE (M:aD) (x:St) (al:Ev→Bool):List (St×aH):=(cM M x al (fun _=>false)).2
end Go.Proofs.YtnkgbocdpngldaaGreatDoor

namespace Go.Proofs.YtnkgbocdpngldaaGreatDoor
def A1 (m g:Nat):List Ev:=(List.range (m+1)).map fun (k:Nat)=>(⟨g,k⟩:Ev)
def lP (n m:Nat):List Ev:=(List.range n).flatMap (A1 m)
structure wG (al:Ev→Bool) (m:Nat):Prop where
 le:m≤2
 fold:∀ (n:Nat) (M:aD) (now:St) (s:List (St×aH)×List St),(evs n).foldl (fm M al now) s=(lP n m).foldl (fm M al now) s
 all:∀ (n:Nat),∀ v∈lP n m,al v=true
 mem:∀ (n:Nat) (v:Ev),v∈evs n→al v=true→v∈lP n m
theorem tQ {M:aD} {m:Nat} (hm:m≤2) {v:Ev} (hv:v∈lP M.n m):dA M v=true:=by
 unfold lP at hv
 obtain ⟨g,hg,hv⟩:=List.mem_flatMap.1 hv
 obtain ⟨k,hk,rfl⟩:=CM.1 hv
 have:=Cz.1 hk
 have:=Cz.1 hg
 rw [fA]
 simp only
 omega
structure nP (x0:St) (R:List (St×aH)) (L:List (St×Int×Ev)):Prop where
 key:L.map (·.1)=aB R
 zero:∃ v,L[0]?=some (x0,-1,v)
 src:∀ j p,0<j→L[j]?=some p→∃ k:Nat,k<j∧p.2.1=(k:Int)∧∃ q s,R[j]?=some (p.1,s)∧R[k]?=some q∧s.src=q.1∧p.2.2=s.ev∧s.first=false
theorem nP.len {x0:St} {R:List (St×aH)} {L:List (St×Int×Ev)} (h:nP x0 R L):L.length=R.length:=by
 have:=congrArg List.length h.key
 simpa [aB] using this
theorem nP.start (x:St) (v:Ev):nP x (nv x) [(x,-1,v)]:=by
 refine ⟨rfl,⟨v,rfl⟩,fun j p hj hp=>?_⟩
 have:=(Cg.1 hp).1
 simp at this
 omega
theorem nP.add {x0:St} {R:List (St×aH)} {L:List (St×Int×Ev)} (h:nP x0 R L) {i:Nat} {now:St} {s:aH} (hi:R[i]?=some (now,s)) (y:St) (v:Ev):nP x0 (R++[(y,⟨now,v,false⟩)]) (L++[(y,(i:Int),v)]):=by
 have hl:=h.len
 have hil:=(Cg.1 hi).1
 refine ⟨by unfold aB;rw [CL,CL,h.key];rfl,?_,fun j p hj hp=>?_⟩
 ·obtain ⟨u,hu⟩:=h.zero
  exact ⟨u,by rw [Cu (by omega)];exact hu⟩
 ·by_cases hjl:j<L.length
  ·rw [Cu hjl] at hp
   obtain ⟨k,h1,h2,q,t,h3,h4,h5⟩:=h.src j p hj hp
   exact ⟨k,h1,h2,q,t,by rw [Cu (by omega)];exact h3,by rw [Cu (by omega)];exact h4,h5⟩
  ·have hj2:=(Cg.1 hp).1
   simp at hj2
   obtain rfl:j=L.length:=by omega
   rw [Du (Ca _),DO] at hp
   cases hp
   exact ⟨i,by omega,rfl,(now,s),⟨now,v,false⟩,by rw [hl,Du (Ca _),DO];rfl,by rw [Cu hil];exact hi,rfl,rfl,rfl⟩
structure WkO (M:aD) (al:Ev→Bool) (x0:St) (R:List (St×aH)) (L:List (St×Int×Ev)) (i:Nat):Prop where
 inv:Inv M al (fun _=>false) x0 R i
 ref:nP x0 R L
 full:(bfs M al (fun _=>false) (65537-i) R ((aB R).drop i)).2=AE M x0 al
theorem WkO.start {M:aD} {al:Ev→Bool} {x:St} (hx:M.At x) (v:Ev):WkO M al x (nv x) [(x,-1,v)] 0:=⟨kQ hx,nP.start x v,rfl⟩
theorem WkO.len {M:aD} (G:M.Good) {al:Ev→Bool} {x0:St} {R:List (St×aH)} {L:List (St×Int×Ev)} {i:Nat} (h:WkO M al x0 R L i):L.length≤32768:=by rw [h.ref.len];exact eo G h.inv
structure WkM (M:aD) (al:Ev→Bool) (m:Nat) (x0:St) (now:St) (R:List (St×aH)) (L:List (St×Int×Ev)) (i t:Nat):Prop where
 mid:Mid M al (fun _=>false) x0 now R i ((lP M.n m).take t)
 ref:nP x0 R L
 rest:∃ Q,(now :: Q)=(aB R).drop i∧(bfs M al (fun _=>false) (65537-(i+1)) (((lP M.n m).drop t).foldl (fm M al now) (R,Q)).1 (((lP M.n m).drop t).foldl (fm M al now) (R,Q)).2).2=AE M x0 al
theorem WkO.enter {M:aD} (G:M.Good) {al:Ev→Bool} {m:Nat} (hs:wG al m) {x0:St} {R:List (St×aH)} {L:List (St×Int×Ev)} {i:Nat} (h:WkO M al x0 R L i) (hi:i<L.length):WkM M al m x0 L[i].1 R L i 0:=by
 have hl:=h.ref.len
 have hb:=h.len G
 have hiR:i<R.length:=by omega
 have hk:(aB R)[i]'(by unfold aB;simpa using hiR)=L[i].1:=by
  have:=h.ref.key
  have h2:(L.map (·.1))[i]'(by simpa using hi)=L[i].1:=by simp
  rw [←h2]
  simp only [this]
 have hd:(L[i].1 :: (aB R).drop (i+1))=(aB R).drop i:=by
  rw [CA (show i<(aB R).length by unfold aB;simpa using hiR),hk]
 refine ⟨⟨h.inv,⟨R[i].2,?_⟩,fun v hv=>by simp at hv⟩,h.ref,(aB R).drop (i+1),hd,?_⟩
 ·rw [Cb hiR,←hk]
  unfold aB
  simp
 ·have hf:=h.full
  rw [←hd,show 65537-i=(65537-(i+1))+1 from by omega,bfs,if_neg Cm] at hf
  rw [Dk]
  unfold lq at hf
  rw [hs.fold M.n M L[i].1 (R,(aB R).drop (i+1))] at hf
  exact hf
theorem qz {α:Type} {l:List α} {t:Nat} {x:α} (h:l[t]?=some x):l.drop t=x :: l.drop (t+1)∧l.take (t+1)=l.take t++[x]:=by
 obtain ⟨ht,rfl⟩:=Cg.1 h
 exact ⟨CA ht,by rw [CG,h];rfl⟩
theorem WkM.old {M:aD} (G:M.Good) {al:Ev→Bool} {m:Nat} (hs:wG al m) {x0 now:St} {R:List (St×aH)} {L:List (St×Int×Ev)} {i t:Nat} (h:WkM M al m x0 now R L i t) {v:Ev} (hv:(lP M.n m)[t]?=some v) (hk:bd M now v∈aB R):WkM M al m x0 now R L i (t+1):=by
 obtain ⟨Q,hQ,hf⟩:=h.rest
 obtain ⟨e1,e2⟩:=qz hv
 have hvm:v∈lP M.n m:=Df hv
 have hadd:fm M al now (R,Q) v=(R,Q):=by
  unfold fm
  rw [if_neg]
  intro hc
  rw [Ce] at hc
  exact eJ.1 (Option.isNone_iff_eq_none.1 hc.1) hk
 have h1:=kt G h.mid (tQ hs.le hvm) hQ
 rw [hadd] at h1
 rw [e1,Eg,hadd] at hf
 exact ⟨by rw [e2];exact h1.1,h.ref,Q,hQ,hf⟩
theorem WkM.new {M:aD} (G:M.Good) {al:Ev→Bool} {m:Nat} (hs:wG al m) {x0 now:St} {R:List (St×aH)} {L:List (St×Int×Ev)} {i t:Nat} (h:WkM M al m x0 now R L i t) {v:Ev} (hv:(lP M.n m)[t]?=some v) (hk:bd M now v∉aB R):WkM M al m x0 now (R++[(bd M now v,⟨now,v,false⟩)]) (L++[(bd M now v,(i:Int),v)]) i (t+1):=by
 obtain ⟨Q,hQ,hf⟩:=h.rest
 obtain ⟨e1,e2⟩:=qz hv
 have hvm:v∈lP M.n m:=Df hv
 have hadd:fm M al now (R,Q) v=(R++[(bd M now v,⟨now,v,false⟩)],Q++[bd M now v]):=by
  unfold fm
  rw [if_pos (by rw [eJ.2 hk,hs.all _ _ hvm];rfl)]
 have h1:=kt G h.mid (tQ hs.le hvm) hQ
 rw [hadd] at h1
 rw [e1,Eg,hadd] at hf
 obtain ⟨s,hi⟩:=h.mid.here
 exact ⟨by rw [e2];exact h1.1,h.ref.add hi _ _,Q++[bd M now v],h1.2,hf⟩
end Go.Proofs.YtnkgbocdpngldaaGreatDoor

namespace Go.Proofs.YtnkgbocdpngldaaGreatDoor
open Go.RowKit Dc Dg
theorem oY {n g:Nat} (hn:n≤3) (hg:g<n) (y:St) (k:Int):(atL n y).set g k=atL n (y.go g k):=by
 have h1:n=1∨n=2∨n=3:=by omega
 have h2:g=0∨g=1∨g=2:=by omega
 rcases h1 with rfl | rfl | rfl<;>rcases h2 with rfl | rfl | rfl<;>first | rfl | omega
theorem kj {n g:Nat} (hn:n≤3) (hg:g<n) (y:St) (k:Int):(aO n y).set g 0=aO n (y.go g k):=by
 have h1:n=1∨n=2∨n=3:=by omega
 have h2:g=0∨g=1∨g=2:=by omega
 rcases h1 with rfl | rfl | rfl<;>rcases h2 with rfl | rfl | rfl<;>first | rfl | omega
theorem sG {n g:Nat} (hn:n≤3) (hg:g<n) (y:St):(aO n y).set g (y.f g+1)=aO n (y.fail g):=by
 have h1:n=1∨n=2∨n=3:=by omega
 have h2:g=0∨g=1∨g=2:=by omega
 rcases h1 with rfl | rfl | rfl<;>rcases h2 with rfl | rfl | rfl<;>first | rfl | omega
theorem wQ {n g:Nat} (hn:n≤3) (hg:g<n) (y:St):atL n y=atL n (y.fail g):=by
 have h1:n=1∨n=2∨n=3:=by omega
 have h2:g=0∨g=1∨g=2:=by omega
 rcases h1 with rfl | rfl | rfl<;>rcases h2 with rfl | rfl | rfl<;>first | rfl | omega
theorem ox {n g:Nat} (hn:n≤3) (hg:g<n) (y:St):(aO n y)[g]?=some (y.f g):=qC hn y hg
theorem vU {gs:List Gd} (hS:bf gs=true) {g:Nat} (hg:g<gs.length):aF (ag gs g) []<0:=by
 have hr:=bC (ag gs g) []
 rcases Int.lt_or_le (aF (ag gs g) []) 0 with h | h
 ·exact h
 ·exfalso
  obtain ⟨k,hk⟩:∃ k:Nat,aF (ag gs g) []=(k:Int):=⟨(aF (ag gs g) []).toNat,by omega⟩
  obtain ⟨hkl,he⟩:=m_ hk
  have h1:=ej (bI hS hg) hkl
  unfold bL cO at h1
  simp only [Ce] at h1
  have h2:=h1.1.1.1.1.1.1
  rw [ky hkl,he] at h2
  exact absurd h2 (by decide)
theorem yl {gs:List Gd} (hS:bf gs=true) {g k:Nat} (hg:g<gs.length) (hk:k<(ag gs g).length):(aM gs g k).next.data.toList=[]↔(ai gs).next g k<0:=by
 have h1:(ai gs).next g k=aF (ag gs g) (aM gs g k).next.data.toList:=rfl
 rw [h1]
 constructor
 ·intro h
  rw [h];exact vU hS hg
 ·intro h
  have h2:=ej (bI hS hg) hk
  unfold bL at h2
  simp only [Ce] at h2
  rcases (nF.1 h2.1.1.2).1 with h3 | h3
  ·exact h3
  ·omega
theorem uT (gs:List Gd) (p:Option Addr) (c:Nat) (v:Ev) (w:World) (hn:gs.length≤1000000) :
  Calls Tryz.prog 77 #[.agg #[.slice p gs.length c],.agg #[.int .i64 v.g,.int .i64 v.k]] w fun e w'=>e=.returned (.bool (dA (ai gs) v))∧Below w.heap.size w w':=by
 have hl:=iD w (.cells #[.slice p gs.length c] 24) (.cells #[.int .i64 v.g,.int .i64 v.k] 53)
 have hO:dA (ai gs) v=((decide (0≤v.g)&&decide (v.g≤(gs.length:Int)-1))&&(decide (0≤v.k)&&decide (v.k≤2))):=rfl
 have HO:=B8 hO
 clear hO
 go_enter Tryz.func77,Tryz.ntmps77
 go_upto_region 1 with fail
 generalize (w.alloc (.cells #[.slice p gs.length c] 24)).alloc (.cells #[.int .i64 v.g,.int .i64 v.k] 53)=w1 at *
 have x0:w1.cell? ⟨w.heap.size,0,none⟩=some (.slice p gs.length c):=aa hl.s0 0
 have x1:w1.cell? ⟨w.heap.size+1,0,none⟩=some (.int .i64 v.g):=aa hl.s1 0
 have x2:w1.cell? ⟨w.heap.size+1,1,none⟩=some (.int .i64 v.k):=aa hl.s1 1
 have HB:=hl.below
 clear hl
 go_wp2_with fail
 refine (iC v.g 0 ((gs.length:Int)-1) w1).mono ?_
 rintro e w2 ⟨rfl,hw⟩
 obtain rfl:=hw.symm
 obtain ⟨b1,hb1⟩:∃ b,b=(decide (0≤v.g)&&decide (v.g≤(gs.length:Int)-1)):=⟨_,rfl⟩
 rw [←hb1] at HO ⊢
 clear hb1
 cases b1
 ·go_wp2
  go_ret
  exact ⟨by rw [HO.out];rfl,HB⟩
 ·go_wp2_with fail
  refine (iC v.k 0 2 w1).mono ?_
  rintro e w2 ⟨rfl,hw⟩
  obtain rfl:=hw.symm
  rw [Bool.true_and] at HO
  rw [←HO.out]
  clear HO
  obtain ⟨b,hb⟩:∃ b,b=dA (ai gs) v:=⟨_,rfl⟩
  rw [←hb]
  have HB2:=B8 hb
  clear hb
  cases b <;>
  ·go_wp2
   go_ret
   exact ⟨by rw [←HB2.out];rfl,HB⟩
end Go.Proofs.YtnkgbocdpngldaaGreatDoor
