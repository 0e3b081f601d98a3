/-
  Texts of this claim: RA11, MachW, RM1, RA12.
-/
import Derived.Test.YtnkgbocdpngldaaGreatDoorYMach
import Derived.Test.YtnkgbocdpngldaaGreatDoorYNev
import Derived.Test.YtnkgbocdpngldaaGreatDoorYRA9
import Derived.Test.YtnkgbocdpngldaaGreatDoorYA
set_option linter.unusedVariables false
set_option linter.unusedSimpArgs false
set_option maxRecDepth 100000
set_option maxHeartbeats 8000000

namespace Go.Proofs.YtnkgbocdpngldaaGreatDoor
open Go.RowKit Dc Dg
theorem tc {n:Nat} (hn:n≤3):atL n St.zero=List.replicate n 0:=by
 have:n=0∨n=1∨n=2∨n=3:=by omega
 rcases this with rfl | rfl | rfl | rfl<;>rfl
theorem oo {n:Nat} (hn:n≤3):aP n St.zero=List.replicate n 0:=by
 have:n=0∨n=1∨n=2∨n=3:=by omega
 rcases this with rfl | rfl | rfl | rfl<;>rfl
theorem jm {w:World} {o:Oper} {a:Act} {K:Act→World→Prop} {Q:Exit→Act→World→Prop} (l c:Operand) (hop:o.op=Op.makeSlice 39 l c) (n:Nat) (hl:a.eval l=.int .i64 n) (hc:a.eval c=.int .i64 n) (hn:n≤1000)
  (hK:∀ w',aN w.heap.size w' (.slice (some ⟨w.heap.size,0,none⟩) n n) (List.replicate n 0)→Below w.heap.size w w'→K (a.put o.dst (.slice (some ⟨w.heap.size,0,none⟩) n n)) w'):o.wp Tryz.prog a w K Q:=by
 obtain ⟨i0,hi,hz0,hz1,hz2⟩:=info_parts yF
 obtain ⟨w',hrun,r1,r2⟩:=run_make_full (P:=Tryz.prog) w w.heap.size 39 3 i0 (.int .i64 0) 1 Tryz.underlying39 hi hz0 hz1 .i64 .i64 n (by rw [hz2];omega) (by unfold maxLen;omega) (CZ _)
 unfold Oper.wp
 simp [execOp,hop,hl,hc,hrun,Result.andThen]
 refine hK w' ?_ ((Below.refl _ _).grown r2 (CZ _) (fun k hk=>by cases hk))
 have e:(madeCells (Value.int .i64 0).cells (n*1)).toList=(List.replicate n (0:Int)).map (Value.int .i64):=by
  rw [Em];simp [Value.cells,toList_madeCells_one]
 rw [e] at r1
 unfold aN
 rw [EB];exact r1
structure BgS (w0 w:World) (gs:List Gd) (p:Option Addr) (c:Nat):Prop where
 s0:w.heap[w0.heap.size]?=some (.cells #[.slice p gs.length c] 24 (0,0))
 s1:w.heap[w0.heap.size+1]?=some (.cells #[.slice none 0 0,.slice none 0 0] 41 (0,0))
 bl:Below w0.heap.size w0 w
theorem BgS.below {w0 w w':World} {gs:List Gd} {p:Option Addr} {c:Nat} (h:BgS w0 w gs p c) (hb:Below w.heap.size w w'):BgS w0 w' gs p c :=
 ⟨(hb.block _ (ac h.s0)).trans h.s0,(hb.block _ (ac h.s1)).trans h.s1,h.bl.trans (hb.mono h.bl.size)⟩
theorem oR (gs:List Gd) (p:Option Addr) (c:Nat) (w:World) (hn3:gs.length≤3) :
  Calls Tryz.prog 48 #[.agg #[.slice p gs.length c]] w fun e w'=>∃ u1 u2,e=.returned (.agg #[u1,u2])∧cF w.heap.size w' u1 u2 (atL gs.length St.zero) (aP gs.length St.zero)∧Below w.heap.size w w':=by
 have hl:=iN w (.cells #[.slice p gs.length c] 24) (.cells #[.slice none 0 0,.slice none 0 0] 41)
 have S0:BgS w ((w.alloc (.cells #[.slice p gs.length c] 24)).alloc (.cells #[.slice none 0 0,.slice none 0 0] 41)) gs p c:=⟨hl.s0,hl.s1,hl.below⟩
 have hS:=S0.below (below_drewN (Below.refl _ _) 1)
 clear hl S0
 go_enter Tryz.func48,Tryz.ntmps48
 go_upto_region 1 with fail
 generalize (w.alloc (.cells #[.slice p gs.length c] 24)).alloc (.cells #[.slice none 0 0,.slice none 0 0] 41)=w1 at *
 refine wp_mono (aw (Q:=aJ _) (fun wx:World=>BgS w wx gs p c) (fun i=>i == 9) (by kernel_rfl) ?_) (fun _ _ _ h=>aK h)
 change BgS w w1.drew gs p c at hS
 generalize w1.drew=w2 at *
 refine ae (i:=0) (v:=?vv1) rfl (by kernel_rfl) (fun _ _ _ h=>h) rfl ?hy1 ?rest1
 case hy1=>(intro wy;go_simp;try with_reducible rfl)
 try simp only [Act.put,CY,CV,CW,CS,CU,CT]
 refine ae (i:=4) (v:=?vv2) rfl (by kernel_rfl) (fun _ _ _ h=>h) rfl ?hy2 ?rest2
 case hy2=>(intro wy;go_simp;try with_reducible rfl)
 try simp only [Act.put,CY,CV,CW,CS,CU,CT]
 refine am (i:=1) (v:=?vvA) rfl (by kernel_rfl) (fun _ _ _ h=>h) rfl hS ?hyA ?restA
 case hyA =>
  intro wy hy
  have e0:=aa hy.s0 0
  clear hy
  go_simp
  try with_reducible rfl
 try simp only [Act.put,CY,CV,CW,CS,CU,CT]
 refine am (i:=5) (v:=?vvB) rfl (by kernel_rfl) (fun _ _ _ h=>h) rfl hS ?hyB ?restB
 case hyB =>
  intro wy hy
  have e0:=aa hy.s0 0
  clear hy
  go_simp
  try with_reducible rfl
 try simp only [Act.put,CY,CV,CW,CS,CU,CT]
 refine ae (i:=2) (v:=?vv3) rfl (by kernel_rfl) (fun _ _ _ h=>h) rfl ?hy3 ?rest3
 case hy3=>(intro wy;go_simp;try with_reducible rfl)
 try simp only [Act.put,CY,CV,CW,CS,CU,CT]
 refine ae (i:=6) (v:=?vv4) rfl (by kernel_rfl) (fun _ _ _ h=>h) rfl ?hy4 ?rest4
 case hy4=>(intro wy;go_simp;try with_reducible rfl)
 try simp only [Act.put,CY,CV,CW,CS,CU,CT]
 refine fV (i:=3) (i':=7) rfl rfl (by kernel_rfl) rfl rfl (fun K hK=>?_) (fun K hK=>?_)
 ·refine jm _ _ rfl gs.length rfl rfl (by omega) ?_
  intro w4 hI1 hb4
  have hS4:=hS.below hb4
  refine hK _ _ (fun _ _=>hS4) ?_
  clear hK K
  try simp only [Act.put,CY,CV,CW,CS,CU,CT]
  refine ak (i:=7) rfl (by kernel_rfl) rfl (fun K hK=>?_)
  have hb2:=hS.bl.size
  clear hS
  have hS:=hS4
  clear hS4
  refine jm _ _ rfl gs.length rfl rfl (by omega) ?_
  intro w6 hI2 hb6
  have hS6:=hS.below hb6
  refine hK _ _ (fun _ _=>hS6) ?_
  clear hK K
  try simp only [Act.put,CY,CV,CW,CS,CU,CT]
  have hL:cF w.heap.size w6 (.slice (some ⟨w2.heap.size,0,none⟩) gs.length gs.length) (.slice (some ⟨w4.heap.size,0,none⟩) gs.length gs.length) (List.replicate gs.length 0) (List.replicate gs.length 0):=⟨(hI1.below hb6).base hb2,hI2.base hS.bl.size,fun k h1 h2=>by
   have a1:=(ax hI1 h1).2.1
   have a2:=(ax hI2 h2).1
   omega⟩
  clear hS hb4 hb6 hb2 hI1 hI2
  have hS:=hS6
  clear hS6
  refine ae (i:=8) (v:=?vv5) rfl (by kernel_rfl) (fun _ _ _ h=>h) rfl ?hy5 ?rest5
  case hy5=>(intro wy;go_simp;try with_reducible rfl)
  try simp only [Act.put,CY,CV,CW,CS,CU,CT]
  have hP:ez w6 (bY w6 (w.heap.size+1) (.slice (some ⟨w2.heap.size,0,none⟩) gs.length gs.length) (.slice (some ⟨w4.heap.size,0,none⟩) gs.length gs.length)) (w.heap.size+1) _ #[.slice (some ⟨w2.heap.size,0,none⟩) gs.length gs.length,.slice (some ⟨w4.heap.size,0,none⟩) gs.length gs.length]:=aV hS.s1
  have HL:=CX (hL.put (u1:=.slice (some ⟨w2.heap.size,0,none⟩) gs.length gs.length) (u2:=.slice (some ⟨w4.heap.size,0,none⟩) gs.length gs.length) hS.s1 (by decide))
  have hB:=hS.bl.trans (hP.below w.heap.size (by omega))
  have c0:=aa hS.s1 0
  have c1:=aa hS.s1 1
  have f0:=frozen_of_row w6 (w.heap.size+1) 0 _ _ hS.s1
  have f1:=frozen_of_row w6 (w.heap.size+1) 1 _ _ hS.s1
  clear hS hL
  refine ak (i:=9) rfl (by kernel_rfl) rfl (fun K hK=>?_)
  go_simp
  change K _ (bY w6 (w.heap.size+1) (.slice (some ⟨w2.heap.size,0,none⟩) gs.length gs.length) (.slice (some ⟨w4.heap.size,0,none⟩) gs.length gs.length))
  refine hK _ _ (fun h=>by cases h) ?_
  clear hK K c0 c1 f0 f1
  try simp only [Act.put,CY,CV,CW,CS,CU,CT]
  refine aA (by kernel_rfl) ?_ _
  simp only [aJ]
  go_wp2_with fail
  (try simp only [Exit.inBlock,Exit.then])
  refine bodyPost_ret (results_cell_row rfl _ _ (w.heap.size+1) _ _ (0,0) _ rfl hP.row Tryz.underlying41 rfl (by kernel_rfl)) rfl ?_
  exact ⟨_,_,rfl,by rw [tc hn3,oo hn3];exact HL.out,hB⟩
 ·refine jm _ _ rfl gs.length rfl rfl (by omega) ?_
  intro w4 hI1 hb4
  have hS4:=hS.below hb4
  refine hK _ _ (fun _ _=>hS4) ?_
  clear hK K
  try simp only [Act.put,CY,CV,CW,CS,CU,CT]
  refine ak (i:=3) rfl (by kernel_rfl) rfl (fun K hK=>?_)
  have hb2:=hS.bl.size
  clear hS
  have hS:=hS4
  clear hS4
  refine jm _ _ rfl gs.length rfl rfl (by omega) ?_
  intro w6 hI2 hb6
  have hS6:=hS.below hb6
  refine hK _ _ (fun _ _=>hS6) ?_
  clear hK K
  try simp only [Act.put,CY,CV,CW,CS,CU,CT]
  have hL:cF w.heap.size w6 (.slice (some ⟨w4.heap.size,0,none⟩) gs.length gs.length) (.slice (some ⟨w2.heap.size,0,none⟩) gs.length gs.length) (List.replicate gs.length 0) (List.replicate gs.length 0):=⟨hI2.base hS.bl.size,(hI1.below hb6).base hb2,fun k h1 h2=>by
   have a1:=(ax hI2 h1).1
   have a2:=(ax hI1 h2).2.1
   omega⟩
  clear hS hb4 hb6 hb2 hI1 hI2
  have hS:=hS6
  clear hS6
  refine ae (i:=8) (v:=?vv6) rfl (by kernel_rfl) (fun _ _ _ h=>h) rfl ?hy6 ?rest6
  case hy6=>(intro wy;go_simp;try with_reducible rfl)
  try simp only [Act.put,CY,CV,CW,CS,CU,CT]
  have hP:ez w6 (bY w6 (w.heap.size+1) (.slice (some ⟨w4.heap.size,0,none⟩) gs.length gs.length) (.slice (some ⟨w2.heap.size,0,none⟩) gs.length gs.length)) (w.heap.size+1) _ #[.slice (some ⟨w4.heap.size,0,none⟩) gs.length gs.length,.slice (some ⟨w2.heap.size,0,none⟩) gs.length gs.length]:=aV hS.s1
  have HL:=CX (hL.put (u1:=.slice (some ⟨w4.heap.size,0,none⟩) gs.length gs.length) (u2:=.slice (some ⟨w2.heap.size,0,none⟩) gs.length gs.length) hS.s1 (by decide))
  have hB:=hS.bl.trans (hP.below w.heap.size (by omega))
  have c0:=aa hS.s1 0
  have c1:=aa hS.s1 1
  have f0:=frozen_of_row w6 (w.heap.size+1) 0 _ _ hS.s1
  have f1:=frozen_of_row w6 (w.heap.size+1) 1 _ _ hS.s1
  clear hS hL
  refine ak (i:=9) rfl (by kernel_rfl) rfl (fun K hK=>?_)
  go_simp
  change K _ (bY w6 (w.heap.size+1) (.slice (some ⟨w4.heap.size,0,none⟩) gs.length gs.length) (.slice (some ⟨w2.heap.size,0,none⟩) gs.length gs.length))
  refine hK _ _ (fun h=>by cases h) ?_
  clear hK K c0 c1 f0 f1
  try simp only [Act.put,CY,CV,CW,CS,CU,CT]
  refine aA (by kernel_rfl) ?_ _
  simp only [aJ]
  go_wp2_with fail
  (try simp only [Exit.inBlock,Exit.then])
  refine bodyPost_ret (results_cell_row rfl _ _ (w.heap.size+1) _ _ (0,0) _ rfl hP.row Tryz.underlying41 rfl (by kernel_rfl)) rfl ?_
  exact ⟨_,_,rfl,by rw [tc hn3,oo hn3];exact HL.out,hB⟩
theorem cF.r {B n:Nat} {w:World} {u1 u2:Value} {z:St} (h:cF B w u1 u2 (atL n z) (aP n z)):lG B n w (.agg #[u1,u2]) z:=⟨u1,u2,rfl,h.a,h.f⟩
end Go.Proofs.YtnkgbocdpngldaaGreatDoor

namespace Go.Proofs.YtnkgbocdpngldaaGreatDoor
theorem mW (M:aB) (al:Ev→Bool) (now:St):∀ (us:List Ev) (s:List (St×aD)×List St),s.1 <+: (us.foldl (eQ M al now) s).1
 | [],_=>Ew _
 | u :: us,s=>by
  refine List.IsPrefix.trans ?_ (mW M al now us (eQ M al now s u))
  unfold eQ
  split
  ·exact List.prefix_append _ _
  ·exact Ew _
theorem uA (M:aB) (al:Ev→Bool) (fd:St→Bool):∀ (m:Nat) (R:List (St×aD)) (q:List St),R <+: (bfs M al fd m R q).2
 | 0,_,_=>Ew _
 | m+1,R,[]=>Ew _
 | m+1,R,now :: q=>by
  rw [bfs]
  split
  ·exact Ew _
  ·exact List.IsPrefix.trans (mW M al now _ (R,q)) (uA M al fd m _ _)
def d8 (M:aB) (x:St) (al:Ev→Bool):List (St×aD):=(a7 M x al (fun _=>false)).2
theorem qU (M:aB) (al:Ev→Bool) (fd:St→Bool):∀ (m:Nat) (R:List (St×aD)) (q:List St),
  (bfs M al fd m R q).2 <+: (bfs M al (fun _=>false) m R q).2∧((bfs M al fd m R q).1=none→(bfs M al fd m R q).2=(bfs M al (fun _=>false) m R q).2)
 | 0,_,_=>⟨Ew _,fun _=>rfl⟩
 | m+1,R,[]=>⟨Ew _,fun _=>rfl⟩
 | m+1,R,now :: q=>by
  rw [bfs,bfs,if_neg Db]
  by_cases h:fd now=true
  ·rw [if_pos h]
   exact ⟨List.IsPrefix.trans (mW M al now _ (R,q)) (uA M al _ m _ _),fun h=>by cases h⟩
  ·rw [if_neg h]
   exact qU M al fd m _ _
theorem mU {M:aB} (G:M.Good) {al:Ev→Bool} {x:St} (hx:M.At x):Inv M al (fun _=>false) x (d8 M x al) (d8 M x al).length:=by
 have:=fT G (al:=al) (fd:=fun _=>false) hx
 have hn:(a7 M x al (fun _=>false)).1=none:=by
  have key:∀ (m:Nat) (R:List (St×aD)) (q:List St),(bfs M al (fun _=>false) m R q).1=none:=by
   intro m
   induction m with
   | zero=>intro R q;rfl
   | succ m ih =>
    intro R q
    cases q with
    | nil=>rfl
    | cons now q=>rw [bfs,if_neg Db];exact ih _ _
  exact key _ _ _
 unfold d8
 revert hn this
 generalize a7 M x al (fun _=>false)=res
 obtain ⟨r,R⟩:=res
 intro h1 h2
 simp only at h2
 subst h2
 exact h1.inv
theorem xM {M:aB} {al:Ev→Bool} {fd fd':St→Bool} {x0:St} {R R':List (St×aD)} {i i':Nat} (h:Inv M al fd x0 R i) (h':Inv M al fd' x0 R' i') (hp:R <+: R'):∀ (j:Nat) (p:St×aD),R[j]?=some p→dF R (j+1) p.1=dF R' (j+1) p.1:=by
 intro j
 induction j using Nat.strongRecOn with
 | ind j ih =>
  intro p hpj
  have hp':R'[j]?=some p:=by
   obtain ⟨t,rfl⟩:=hp
   obtain ⟨hj,rfl⟩:=C4.1 hpj
   rw [Dd hj];exact hpj
  by_cases hf:p.2.first=true
  ·rw [kG h hpj hf,kG h' hp' hf]
  ·have hf':p.2.first=false:=by simpa using hf
   obtain ⟨k,q,a1,a2,a3,a4,a5⟩:=jr h hpj hf'
   obtain ⟨k',q',b1,b2,b3,b4,b5⟩:=jr h' hp' hf'
   have hq':R'[k]?=some q:=by
    obtain ⟨t,rfl⟩:=hp
    obtain ⟨hk,rfl⟩:=C4.1 a2
    rw [Dd hk];exact a2
   have hkk:k=k':=by
    obtain ⟨c1,c2⟩:=C4.1 hq'
    obtain ⟨d1,d2⟩:=C4.1 b2
    have hkeys:(ay R')[k]?=(ay R')[k']?:=by
     unfold ay
     rw [Do,Do,hq',b2]
     show some q.1=some q'.1
     rw [←a3,←b3]
    exact (List.getElem?_inj (by unfold ay;simpa using c1) h'.nd).1 hkeys
   subst hkk
   rw [hq'] at b2
   injection b2 with b2
   subst b2
   rw [a5,b5,ih k a1 q a2]
theorem kO {M:aB} (G:M.Good) {al:Ev→Bool} {fd:St→Bool} {x:St} (hx:M.At x) :
  (∃ i p,(d8 M x al)[i]?=some p∧fd p.1=true∧(∀ (j:Nat) (q:St×aD),j<i→(d8 M x al)[j]?=some q→fd q.1=false)∧∃ R,a7 M x al fd=(some p.1,R)∧lD R p.1=(dF (d8 M x al) (i+1) p.1).reverse) ∨
  ((∀ (j:Nat) (q:St×aD),(d8 M x al)[j]?=some q→fd q.1=false)∧∃ R,a7 M x al fd=(none,R)):=by
 have h1:=fT G (al:=al) (fd:=fd) hx
 have h2:=qU M al fd 65537 (kn x) [x]
 have hF:=mU G (al:=al) hx
 change (a7 M x al fd).2 <+: d8 M x al∧((a7 M x al fd).1=none→(a7 M x al fd).2=d8 M x al) at h2
 revert h1 h2
 generalize a7 M x al fd=res
 obtain ⟨r,R⟩:=res
 intro h1 h2
 simp only at h2
 cases r with
 | some y =>
  left
  obtain ⟨i,s,hI,hi⟩:=h1.ex
  obtain ⟨t,ht⟩:=h2.1
  have hpre:R <+: d8 M x al:=⟨t,ht⟩
  have hil:=(C4.1 hi).1
  have hget:∀ j,j<R.length→(d8 M x al)[j]?=R[j]?:=fun j hj=>by rw [←ht,Dd hj]
  refine ⟨i,(y,s),by rw [hget i hil];exact hi,h1.fd,fun j q hj hq=>?_,R,rfl,?_⟩
  ·rw [hget j (by omega)] at hq
   exact (hI.done j q hj hq).1
  ·unfold lD
   rw [rO hI hi,xM hI hF hpre i _ hi]
 | none =>
  right
  refine ⟨fun j q hq=>?_,R,rfl⟩
  have e:=h2.2 rfl
  have hL:Bx M al fd x R:=h1
  rw [←e] at hq
  exact (hL.inv.done j q (C4.1 hq).1 hq).1
end Go.Proofs.YtnkgbocdpngldaaGreatDoor

namespace Go.Proofs.YtnkgbocdpngldaaGreatDoor
theorem Cb {x y:St} (ha:∀ j,j<3→x.a j=y.a j) (hf:∀ j,j<3→x.f j=y.f j):x=y:=by
 cases x;cases y
 have a0:=ha 0 (by omega);have a1:=ha 1 (by omega);have a2:=ha 2 (by omega)
 have f0:=hf 0 (by omega);have f1:=hf 1 (by omega);have f2:=hf 2 (by omega)
 simp only [St.a,St.f] at a0 a1 a2 f0 f1 f2
 subst a0;subst a1;subst a2;subst f0;subst f1;subst f2
 rfl
def eZ (x:St):Nat→Nat
 | 0=>0
 | i+1=>(eZ x i*8+(x.a i).toNat)*4+(x.f i).toNat
theorem qw {x:St} (h:∀ g,g<3→0≤x.a g∧x.a g<8∧0≤x.f g∧x.f g<4):∀ i,i≤3→eZ x i<32 ^ i
 | 0,_=>by unfold eZ;omega
 | i+1,hi=>by
  have h1:=qw h i (by omega)
  have h2:=h i (by omega)
  have e1:=lt8 h1 (show (x.a i).toNat<8 by omega)
  have e2:=lt4 e1 (show (x.f i).toNat<4 by omega)
  rw [eZ,Dk]
  omega
theorem sf {x y:St} (hx:∀ g,g<3→0≤x.a g∧x.a g<8∧0≤x.f g∧x.f g<4) (hy:∀ g,g<3→0≤y.a g∧y.a g<8∧0≤y.f g∧y.f g<4):∀ i,i≤3→eZ x i=eZ y i→∀ g,g<i→x.a g=y.a g∧x.f g=y.f g
 | 0,_,_,g,hg=>by omega
 | i+1,hi,e,g,hg=>by
  have h1:=hx i (by omega)
  have h2:=hy i (by omega)
  rw [eZ,eZ] at e
  obtain ⟨e,g2⟩:=uV (show (x.f i).toNat<4 by omega) (show (y.f i).toNat<4 by omega) e
  obtain ⟨e,g1⟩:=zm (show (x.a i).toNat<8 by omega) (show (y.a i).toNat<8 by omega) e
  by_cases hgi:g=i
  ·subst hgi;omega
  ·exact sf hx hy i (by omega) e g (by omega)
theorem zi {M:aB} (G:M.Good) {x:St} (h:M.At x):eZ x M.n<32768:=by
 have h1:=qw (bI G h) M.n G.n3
 have h3:32 ^ M.n≤32 ^ 3:=Dr (by omega) G.n3
 omega
theorem AX {M:aB} (G:M.Good) {x y:St} (hx:M.At x) (hy:M.At y) (e:eZ x M.n=eZ y M.n):x=y:=by
 have h:=sf (bI G hx) (bI G hy) M.n G.n3 e
 refine Cb (fun j hj=>?_) (fun j hj=>?_)
 ·by_cases hn:j<M.n
  ·exact (h j hn).1
  ·rw [hx.a0 j (by omega) hj,hy.a0 j (by omega) hj]
 ·by_cases hn:j<M.n
  ·exact (h j hn).2
  ·rw [hx.f0 j (by omega) hj,hy.f0 j (by omega) hj]
def dW (x:St):Nat→Nat
 | 0=>0
 | i+1=>8*dW x i+(x.a i).toNat
theorem qA {x:St} (h:∀ g,g<3→0≤x.a g∧x.a g<8∧0≤x.f g∧x.f g<4):∀ i,i≤3→dW x i<8 ^ i
 | 0,_=>by unfold dW;omega
 | i+1,hi=>by
  have h1:=qA h i (by omega)
  have h2:=h i (by omega)
  rw [dW,Dk]
  omega
theorem ss {x y:St} (hx:∀ g,g<3→0≤x.a g∧x.a g<8∧0≤x.f g∧x.f g<4) (hy:∀ g,g<3→0≤y.a g∧y.a g<8∧0≤y.f g∧y.f g<4):∀ i,i≤3→dW x i=dW y i→∀ g,g<i→x.a g=y.a g
 | 0,_,_,g,hg=>by omega
 | i+1,hi,e,g,hg=>by
  have h1:=hx i (by omega)
  have h2:=hy i (by omega)
  rw [dW,dW] at e
  have e1:dW x i=dW y i∧(x.a i).toNat=(y.a i).toNat:=by omega
  by_cases hgi:g=i
  ·subst hgi;omega
  ·exact ss hx hy i (by omega) e1.1 g (by omega)
theorem BU {M:aB} (G:M.Good) {x:St} (h:M.At x):dW x M.n<512:=by
 have h1:=qA (bI G h) M.n G.n3
 have h3:8 ^ M.n≤8 ^ 3:=Dr (by omega) G.n3
 omega
theorem A4 {M:aB} (G:M.Good) {x y:St} (hx:M.At x) (hy:M.At y) (e:dW x M.n=dW y M.n):∀ g,g<3→x.a g=y.a g:=by
 intro g hg
 by_cases hn:g<M.n
 ·exact ss (bI G hx) (bI G hy) M.n G.n3 e g hn
 ·rw [hx.a0 g (by omega) hg,hy.a0 g (by omega) hg]
def qp (m g:Nat):List Ev:=(List.range (m+1)).map fun (k:Nat)=>(⟨g,k⟩:Ev)
def gA (n m:Nat):List Ev:=(List.range n).flatMap (qp m)
def xD:Ev→Bool:=fun _=>true
structure oN (al:Ev→Bool) (m:Nat):Prop where
 le:m≤2
 fold:∀ (n:Nat) (M:aB) (now:St) (s:List (St×aD)×List St),(evs n).foldl (eQ M al now) s=(gA n m).foldl (eQ M al now) s
 all:∀ (n:Nat),∀ v∈gA n m,al v=true
 mem:∀ (n:Nat) (v:Ev),v∈evs n→al v=true→v∈gA n m
theorem rm (n:Nat):gA n 2=evs n:=rfl
theorem pG:oN xD 2:=⟨CZ _,fun n M now s=>by rw [rm],fun _ _ _=>rfl,fun n v h _=>by rw [rm];exact h⟩
theorem fQ (m:Nat):∀ n,(gA n m).length=n*(m+1)
 | 0=>by simp [gA]
 | n+1=>by
  have:=fQ m n
  unfold gA at this ⊢
  rw [Ek,DZ,C7,this]
  simp [qp,DE]
theorem yq {n m g k:Nat} (hg:g<n) (hk:k<m+1):(gA n m)[g*(m+1)+k]?=some ⟨g,k⟩:=by
 induction n with
 | zero=>omega
 | succ n ih =>
  have hl:=fQ m n
  have e:gA (n+1) m=gA n m++qp m n:=by
   unfold gA
   rw [Ek,DZ];simp
  rw [e]
  rcases DN g n with h1 | h1
  ·rw [Dd (by rw [hl];have:=Da (m+1) (show g+1≤n by omega);rw [DE] at this;omega)]
   exact ih h1
  ·have:g=n:=by omega
   subst this
   rw [DT (by omega),hl,Nat.add_sub_cancel_left,qp,Do,El hk]
   rfl
theorem qe {M:aB} {m:Nat} (hm:m≤2) {v:Ev} (hv:v∈gA M.n m):eE M v=true:=by
 unfold gA at hv
 obtain ⟨g,hg,hv⟩:=List.mem_flatMap.1 hv
 obtain ⟨k,hk,rfl⟩:=DA.1 hv
 have:=Dp.1 hk
 have:=Dp.1 hg
 rw [iV]
 simp only
 omega
structure gS (x0:St) (R:List (St×aD)) (L:List (St×Int×Ev)):Prop where
 key:L.map (·.1)=ay R
 zero:∃ v,L[0]?=some (x0,-1,v)
 src:∀ j p,0<j→L[j]?=some p→∃ k:Nat,k<j∧p.2.1=(k:Int)∧∃ q s,R[j]?=some (p.1,s)∧R[k]?=some q∧s.src=q.1∧p.2.2=s.ev∧s.first=false
theorem gS.len {x0:St} {R:List (St×aD)} {L:List (St×Int×Ev)} (h:gS x0 R L):L.length=R.length:=by
 have:=congrArg List.length h.key
 simpa [ay] using this
theorem gS.start (x:St) (v:Ev):gS x (kn x) [(x,-1,v)]:=by
 refine ⟨rfl,⟨v,rfl⟩,fun j p hj hp=>?_⟩
 have:=(C4.1 hp).1
 simp at this
 omega
theorem gS.add {x0:St} {R:List (St×aD)} {L:List (St×Int×Ev)} (h:gS x0 R L) {i:Nat} {now:St} {s:aD} (hi:R[i]?=some (now,s)) (y:St) (v:Ev):gS x0 (R++[(y,⟨now,v,false⟩)]) (L++[(y,(i:Int),v)]):=by
 have hl:=h.len
 have hil:=(C4.1 hi).1
 refine ⟨by unfold ay;rw [DB,DB,h.key];rfl,?_,fun j p hj hp=>?_⟩
 ·obtain ⟨u,hu⟩:=h.zero
  exact ⟨u,by rw [Dd (by omega)];exact hu⟩
 ·by_cases hjl:j<L.length
  ·rw [Dd hjl] at hp
   obtain ⟨k,h1,h2,q,t,h3,h4,h5⟩:=h.src j p hj hp
   exact ⟨k,h1,h2,q,t,by rw [Dd (by omega)];exact h3,by rw [Dd (by omega)];exact h4,h5⟩
  ·have hj2:=(C4.1 hp).1
   simp at hj2
   obtain rfl:j=L.length:=by omega
   rw [DT (CZ _),EF] at hp
   cases hp
   exact ⟨i,by omega,rfl,(now,s),⟨now,v,false⟩,by rw [hl,DT (CZ _),EF];rfl,by rw [Dd hil];exact hi,rfl,rfl,rfl⟩
def jO (L:List (St×Int×Ev)):Nat→Nat→List Ev
 | 0,_=>[]
 | m+1,i=>match L[i]? with
  | none=>[]
  | some p=>if p.2.1<0 then [] else jO L m p.2.1.toNat++[p.2.2]
theorem Cd {M:aB} {al:Ev→Bool} {fd:St→Bool} {x0:St} {R:List (St×aD)} {i:Nat} {L:List (St×Int×Ev)} (h:Inv M al fd x0 R i) (hL:gS x0 R L):∀ (j:Nat) (p:St×aD),R[j]?=some p→∀ m,j<m→jO L m j=(dF R (j+1) p.1).reverse:=by
 intro j
 induction j using Nat.strongRecOn with
 | ind j ih =>
  intro p hp m hm
  obtain ⟨m,rfl⟩:∃ n,m=n+1:=⟨m-1,by omega⟩
  have hjR:=(C4.1 hp).1
  have hjL:j<L.length:=by rw [hL.len];exact hjR
  rw [jO,C1 hjL]
  simp only
  by_cases hj0:j=0
  ·subst hj0
   obtain ⟨v,hv⟩:=hL.zero
   rw [C1 hjL] at hv
   rw [Option.some.inj hv,if_pos (show (-1:Int)<0 by decide)]
   have:=h.h0
   rw [hp] at this
   have e:=Option.some.inj this
   rw [kG h hp (by rw [e])]
   rfl
  ·obtain ⟨k,h1,h2,q,s,h3,h4,h5,h6,h7⟩:=hL.src j _ (by omega) (C1 hjL)
   rw [hp] at h3
   have e:=Option.some.inj h3
   have hps:p.2=s:=by rw [e]
   obtain ⟨k',q',a1,a2,a3,a4,a5⟩:=jr h hp (by rw [hps];exact h7)
   rw [h2,if_neg (by omega),Dm,h6,a5,List.reverse_cons]
   have hkk:k=k':=by
    obtain ⟨d1,d2⟩:=C4.1 h4
    have hkeys:(ay R)[k]?=(ay R)[k']?:=by
     unfold ay
     rw [Do,Do,h4,a2]
     show some q.1=some q'.1
     rw [←a3,←h5,hps]
    exact (List.getElem?_inj (by unfold ay;simpa using d1) h.nd).1 hkeys
   subst hkk
   rw [h4] at a2
   have e2:=Option.some.inj a2
   rw [ih k h1 q h4 m (by omega),e2,hps]
structure WkO (M:aB) (al:Ev→Bool) (x0:St) (R:List (St×aD)) (L:List (St×Int×Ev)) (i:Nat):Prop where
 inv:Inv M al (fun _=>false) x0 R i
 ref:gS x0 R L
 full:(bfs M al (fun _=>false) (65537-i) R ((ay R).drop i)).2=d8 M x0 al
theorem WkO.start {M:aB} {al:Ev→Bool} {x:St} (hx:M.At x) (v:Ev):WkO M al x (kn x) [(x,-1,v)] 0:=⟨lj hx,gS.start x v,rfl⟩
theorem WkO.len {M:aB} (G:M.Good) {al:Ev→Bool} {x0:St} {R:List (St×aD)} {L:List (St×Int×Ev)} {i:Nat} (h:WkO M al x0 R L i):L.length≤32768:=by rw [h.ref.len];exact dC G h.inv
theorem WkO.stop {M:aB} (G:M.Good) {al:Ev→Bool} {x0:St} {R:List (St×aD)} {L:List (St×Int×Ev)} {i:Nat} (h:WkO M al x0 R L i) (hi:L.length≤i):R=d8 M x0 al:=by
 have hl:=h.ref.len
 have:=h.full
 rw [Dn (by unfold ay;rw [Du];omega)] at this
 rw [←this]
 cases 65537-i<;>rfl
structure WkM (M:aB) (al:Ev→Bool) (m:Nat) (x0:St) (now:St) (R:List (St×aD)) (L:List (St×Int×Ev)) (i t:Nat):Prop where
 mid:Mid M al (fun _=>false) x0 now R i ((gA M.n m).take t)
 ref:gS x0 R L
 rest:∃ Q,(now :: Q)=(ay R).drop i∧(bfs M al (fun _=>false) (65537-(i+1)) (((gA M.n m).drop t).foldl (eQ M al now) (R,Q)).1 (((gA M.n m).drop t).foldl (eQ M al now) (R,Q)).2).2=d8 M x0 al
theorem WkO.enter {M:aB} (G:M.Good) {al:Ev→Bool} {m:Nat} (hs:oN al m) {x0:St} {R:List (St×aD)} {L:List (St×Int×Ev)} {i:Nat} (h:WkO M al x0 R L i) (hi:i<L.length):WkM M al m x0 L[i].1 R L i 0:=by
 have hl:=h.ref.len
 have hb:=h.len G
 have hiR:i<R.length:=by omega
 have hk:(ay R)[i]'(by unfold ay;simpa using hiR)=L[i].1:=by
  have:=h.ref.key
  have h2:(L.map (·.1))[i]'(by simpa using hi)=L[i].1:=by simp
  rw [←h2]
  simp only [this]
 have hd:(L[i].1 :: (ay R).drop (i+1))=(ay R).drop i:=by
  rw [Dz (show i<(ay R).length by unfold ay;simpa using hiR),hk]
 refine ⟨⟨h.inv,⟨R[i].2,?_⟩,fun v hv=>by simp at hv⟩,h.ref,(ay R).drop (i+1),hd,?_⟩
 ·rw [C1 hiR,←hk]
  unfold ay
  simp
 ·have hf:=h.full
  rw [←hd,show 65537-i=(65537-(i+1))+1 from by omega,bfs,if_neg Db] at hf
  rw [Ee]
  unfold lN at hf
  rw [hs.fold M.n M L[i].1 (R,(ay R).drop (i+1))] at hf
  exact hf
theorem WkM.leave {M:aB} (G:M.Good) {al:Ev→Bool} {m:Nat} (hs:oN al m) {x0 now:St} {R:List (St×aD)} {L:List (St×Int×Ev)} {i t:Nat} (h:WkM M al m x0 now R L i t) (ht:M.n*(m+1)≤t):WkO M al x0 R L (i+1):=by
 obtain ⟨Q,hQ,hf⟩:=h.rest
 rw [Dn (by rw [fQ];exact ht)] at hf
 have hm:=h.mid
 rw [C6 (by rw [fQ];exact ht)] at hm
 obtain ⟨s',hs'⟩:=hm.here
 refine ⟨⟨hm.inv.nd,hm.inv.at_,hm.inv.h0,fun j p hj hp=>?_,fun j p hj hp=>?_⟩,h.ref,?_⟩
 ·obtain ⟨k,q,a,b,c⟩:=hm.inv.src j p hj hp
  exact ⟨k,q,a,by omega,c⟩
 ·by_cases hji:j<i
  ·exact hm.inv.done j p hji hp
  ·have:j=i:=by omega
   subst this
   rw [hs'] at hp
   cases hp
   refine ⟨rfl,fun v hv ha=>?_⟩
   exact hm.seen v (hs.mem _ _ (g_.2 hv) ha) ha
 ·have:=congrArg List.tail hQ
  rw [List.tail_drop] at this
  rw [←this]
  exact hf
theorem ri {α:Type} {l:List α} {t:Nat} {x:α} (h:l[t]?=some x):l.drop t=x :: l.drop (t+1)∧l.take (t+1)=l.take t++[x]:=by
 obtain ⟨ht,rfl⟩:=C4.1 h
 exact ⟨Dz ht,by rw [DC,h];rfl⟩
theorem WkM.old {M:aB} (G:M.Good) {al:Ev→Bool} {m:Nat} (hs:oN al m) {x0 now:St} {R:List (St×aD)} {L:List (St×Int×Ev)} {i t:Nat} (h:WkM M al m x0 now R L i t) {v:Ev} (hv:(gA M.n m)[t]?=some v) (hk:bF M now v∈ay R):WkM M al m x0 now R L i (t+1):=by
 obtain ⟨Q,hQ,hf⟩:=h.rest
 obtain ⟨e1,e2⟩:=ri hv
 have hvm:v∈gA M.n m:=DO hv
 have hadd:eQ M al now (R,Q) v=(R,Q):=by
  unfold eQ
  rw [if_neg]
  intro hc
  rw [C5] at hc
  exact eR.1 (Option.isNone_iff_eq_none.1 hc.1) hk
 have h1:=kJ G h.mid (qe hs.le hvm) hQ
 rw [hadd] at h1
 rw [e1,Fj,hadd] at hf
 exact ⟨by rw [e2];exact h1.1,h.ref,Q,hQ,hf⟩
theorem WkM.new {M:aB} (G:M.Good) {al:Ev→Bool} {m:Nat} (hs:oN al m) {x0 now:St} {R:List (St×aD)} {L:List (St×Int×Ev)} {i t:Nat} (h:WkM M al m x0 now R L i t) {v:Ev} (hv:(gA M.n m)[t]?=some v) (hk:bF M now v∉ay R):WkM M al m x0 now (R++[(bF M now v,⟨now,v,false⟩)]) (L++[(bF M now v,(i:Int),v)]) i (t+1):=by
 obtain ⟨Q,hQ,hf⟩:=h.rest
 obtain ⟨e1,e2⟩:=ri hv
 have hvm:v∈gA M.n m:=DO hv
 have hadd:eQ M al now (R,Q) v=(R++[(bF M now v,⟨now,v,false⟩)],Q++[bF M now v]):=by
  unfold eQ
  rw [if_pos (by rw [eR.2 hk,hs.all _ _ hvm];rfl)]
 have h1:=kJ G h.mid (qe hs.le hvm) hQ
 rw [hadd] at h1
 rw [e1,Fj,hadd] at hf
 obtain ⟨s,hi⟩:=h.mid.here
 exact ⟨by rw [e2];exact h1.1,h.ref.add hi _ _,Q++[bF M now v],h1.2,hf⟩
end Go.Proofs.YtnkgbocdpngldaaGreatDoor

namespace Go.Proofs.YtnkgbocdpngldaaGreatDoor
open Go.RowKit Dc Dg
theorem pQ {n g:Nat} (hn:n≤3) (hg:g<n) (y:St) (k:Int):(atL n y).set g k=atL n (y.go g k):=by
 have h1:n=1∨n=2∨n=3:=by omega
 have h2:g=0∨g=1∨g=2:=by omega
 rcases h1 with rfl | rfl | rfl<;>rcases h2 with rfl | rfl | rfl<;>first | rfl | omega
theorem kz {n g:Nat} (hn:n≤3) (hg:g<n) (y:St) (k:Int):(aP n y).set g 0=aP n (y.go g k):=by
 have h1:n=1∨n=2∨n=3:=by omega
 have h2:g=0∨g=1∨g=2:=by omega
 rcases h1 with rfl | rfl | rfl<;>rcases h2 with rfl | rfl | rfl<;>first | rfl | omega
theorem tD {n g:Nat} (hn:n≤3) (hg:g<n) (y:St):(aP n y).set g (y.f g+1)=aP n (y.fail g):=by
 have h1:n=1∨n=2∨n=3:=by omega
 have h2:g=0∨g=1∨g=2:=by omega
 rcases h1 with rfl | rfl | rfl<;>rcases h2 with rfl | rfl | rfl<;>first | rfl | omega
theorem xL {n g:Nat} (hn:n≤3) (hg:g<n) (y:St):atL n y=atL n (y.fail g):=by
 have h1:n=1∨n=2∨n=3:=by omega
 have h2:g=0∨g=1∨g=2:=by omega
 rcases h1 with rfl | rfl | rfl<;>rcases h2 with rfl | rfl | rfl<;>first | rfl | omega
theorem oX {n g:Nat} (hn:n≤3) (hg:g<n) (y:St):(aP n y)[g]?=some (y.f g):=mO hn y hg
theorem wW {gs:List Gd} (hS:a8 gs=true) {g:Nat} (hg:g<gs.length):aH (ag gs g) []<0:=by
 have hr:=bD (ag gs g) []
 rcases Int.lt_or_le (aH (ag gs g) []) 0 with h | h
 ·exact h
 ·exfalso
  obtain ⟨k,hk⟩:∃ k:Nat,aH (ag gs g) []=(k:Int):=⟨(aH (ag gs g) []).toNat,by omega⟩
  obtain ⟨hkl,he⟩:=nO hk
  have h1:=eC (bE hS hg) hkl
  unfold bO cS at h1
  simp only [C5] at h1
  have h2:=h1.1.1.1.1.1.1
  rw [nN hkl,he] at h2
  exact absurd h2 (by decide)
theorem y8 {gs:List Gd} (hS:a8 gs=true) {g k:Nat} (hg:g<gs.length) (hk:k<(ag gs g).length):(aS gs g k).next.data.toList=[]↔(ai gs).next g k<0:=by
 have h1:(ai gs).next g k=aH (ag gs g) (aS gs g k).next.data.toList:=rfl
 rw [h1]
 constructor
 ·intro h
  rw [h];exact wW hS hg
 ·intro h
  have h2:=eC (bE hS hg) hk
  unfold bO at h2
  simp only [C5] at h2
  rcases (oc.1 h2.1.1.2).1 with h3 | h3
  ·exact h3
  ·omega
end Go.Proofs.YtnkgbocdpngldaaGreatDoor
