/-
  Texts of this claim: RS6.
-/
import Derived.Test.YtnkgbocdpngldaaGreatDoorVRS5
import Derived.Test.YtnkgbocdpngldaaGreatDoorVRQ6
import Derived.Test.YtnkgbocdpngldaaGreatDoorVA
set_option linter.unusedVariables false
set_option linter.unusedSimpArgs false
set_option maxRecDepth 100000
set_option maxHeartbeats 8000000

namespace Go.Proofs.YtnkgbocdpngldaaGreatDoor
open Go.RowKit Dg Dc
theorem pV (x y:Int):decide (dt x y≤0)=decide (x≤y):=by
 unfold dt
 rw [decide_eq_decide]
 split
 ·omega
 ·split<;>omega
theorem tl (m:Bool) (n d:Nat):((decide (sgn m n≤4096)&&decide (-(sgn m n)≤4096))&&decide ((d:Int)≤4096))=(decide (n≤4096)&&decide (d≤4096)):=by
 unfold sgn
 rw [C5]
 cases m<;>simp<;>omega
theorem mz:bF 4096:=by
 unfold bF
 have:=aT aE (n:=4096) (k:=1) (by unfold RR;omega)
 omega
theorem nj (v:Value) (r:Rt) (w:World) (hv:IsQ w v r) (hc:r.minus=true→r.n≠0) (hfn:bF r.n) (hfd:bF r.d) :
  Calls Tryz.prog 111 #[v] w fun e w'=>e=.returned (.bool (dN r))∧Below w.heap.size w w':=by
 obtain ⟨p,N,c,p',N',c',rfl,hN,hNc,hcm,hN',hNc',hcm',hdn,hdd⟩:=hv.parts
 obtain ⟨m,n,d⟩:=r
 simp only at *
 have hl:=bc w (.cells #[.bool m,.slice p N c,.bool false,.slice p' N' c'] 173)
 have HN:=B8 ((sM (m:=m) hdn hc).below hl.below)
 have HD:=B8 ((ja hdd).below hl.below)
 have hr0:=hl.s0
 have HB:=hl.below
 have HR:Hid (((decide (sgn m n≤4096)&&decide (-(sgn m n)≤4096))&&decide ((d:Int)≤4096))=dN ⟨m,n,d⟩):=tl m n d
 have HFN:Hid (bF (sgn m n).natAbs):=by unfold Hid;rw [jk];exact hfn
 have HFN2:Hid (bF (-(sgn m n)).natAbs):=by unfold Hid;rw [El,jk];exact hfn
 have HFD:Hid (bF (d:Int).natAbs):=by unfold Hid;rw [Da];exact hfd
 clear hv hl hdn hdd hc hfn hfd
 go_enter Tryz.func111,Tryz.ntmps111
 go_upto_region 1 with fail
 generalize w.alloc (.cells #[.bool m,.slice p N c,.bool false,.slice p' N' c'] 173)=w1 at *
 go_wp2_with fail
 refine (gZ 4096 (by omega) w1).mono ?_
 rintro e w2 ⟨v2,rfl,hz2,hb2⟩
 obtain ⟨p2,N2,c2,rfl,hN2,hNc2,hcm2,hd2⟩:=hz2.nat
 have hl2:=bc w2 (.cells #[.bool false,.slice p2 N2 c2] 171)
 have hb3:=hb2.trans (hl2.below.mono hb2.size)
 have hr1:=(hb3.block _ (ac hr0)).trans hr0
 have HB3:=HB.trans (hb3.mono HB.size)
 have HN3:=B8 (HN.out.below hb3)
 have HD3:=B8 (HD.out.below hb3)
 have HM3:=B8 ((ja hd2).below hl2.below)
 have hr3:=hl2.s0
 clear hl2 hb2 hb3 hz2 hd2 hr0 HB HN HD
 go_upto_region 2 with fail
 generalize w2.alloc (.cells #[.bool false,.slice p2 N2 c2] 171)=w3 at *
 generalize w2.heap.size=g3 at *
 have hbd:Below w3.heap.size w3 w3.drew:=(Below.refl _ _).drew
 have hS:(fun wx:World=>wx.heap[w.heap.size]?=some (.cells #[.bool m,.slice p N c,.bool false,.slice p' N' c'] 173 (0,0))∧wx.heap[g3]?=some (.cells #[.bool false,.slice p2 N2 c2] 171 (0,0))) w3.drew:=⟨(hbd.block _ (ac hr1)).trans hr1,(hbd.block _ (ac hr3)).trans hr3⟩
 have HB:=HB3.trans (hbd.mono HB3.size)
 have HN:=B8 (HN3.out.below hbd)
 have HD:=B8 (HD3.out.below hbd)
 have HM:=B8 (HM3.out.below hbd)
 refine wp_mono (av (Q:=aI _) (fun wx:World=>wx.heap[w.heap.size]?=some (.cells #[.bool m,.slice p N c,.bool false,.slice p' N' c'] 173 (0,0))∧wx.heap[g3]?=some (.cells #[.bool false,.slice p2 N2 c2] 171 (0,0))) (fun _=>false) (by kernel_rfl) ?_) (fun _ _ _ h=>aR h)
 clear hbd hr1 hr3 HB3 HN3 HD3 HM3
 generalize w3.drew=w4 at *
 refine af (i:=0) (v:=?vv1) rfl (by kernel_rfl) (fun _ _ _ h=>h) rfl ?hy1 ?rest1
 case hy1=>(intro wy;go_simp;try with_reducible rfl)
 try simp only [Act.put,B_,BZ,B6,BV,BY,BW]
 refine am (i:=1) (v:=?vvA1) rfl (by kernel_rfl) (fun _ _ _ h=>h) (by rfl) hS ?hyA1 ?restA1
 case hyA1 =>
  intro wy hy
  have q0:=aa hy.1 0
  have q1:=aa hy.1 1
  have q2:=aa hy.1 2
  have q3:=aa hy.1 3
  have e0:=aa hy.2 0
  have e1:=aa hy.2 1
  clear hy
  go_simp
  try with_reducible rfl
 try simp only [Act.put,B_,BZ,B6,BV,BY,BW]
 refine am (i:=2) (v:=?vvA2) rfl (by kernel_rfl) (fun _ _ _ h=>h) (by rfl) hS ?hyA2 ?restA2
 case hyA2 =>
  intro wy hy
  have q0:=aa hy.1 0
  have q1:=aa hy.1 1
  have q2:=aa hy.1 2
  have q3:=aa hy.1 3
  have e0:=aa hy.2 0
  have e1:=aa hy.2 1
  clear hy
  go_simp
  try with_reducible rfl
 try simp only [Act.put,B_,BZ,B6,BV,BY,BW]
 refine an (i:=3) rfl (by kernel_rfl) rfl (fun K hK=>?_)
 go_simp
 refine (nK _ _ _ _ w4 HN.out HM.out (Cc HFN.out (by omega)) (Cc mz (by omega))).mono ?_
 rintro e w5 ⟨rfl,hb5⟩
 have hS':=And.intro ((hb5.block _ (ac hS.1)).trans hS.1) ((hb5.block _ (ac hS.2)).trans hS.2)
 refine hK _ _ (fun _ _=>hS') ?_
 clear hK K
 try simp only [Act.put,B_,BZ,B6,BV,BY,BW]
 replace HB:=HB.trans (hb5.mono HB.size)
 have HN':=B8 (HN.out.below hb5)
 have HD':=B8 (HD.out.below hb5)
 have HM':=B8 (HM.out.below hb5)
 clear hS HN HD HM
 have hS:=hS'
 have HN:=HN'
 have HD:=HD'
 have HM:=HM'
 clear hS' HN' HD' HM'
 clear hb5
 have hc1:=pV (sgn m n) (4096:Nat)
 obtain ⟨z1,hz1⟩:∃ z,z=dt (sgn m n) (4096:Nat):=⟨_,rfl⟩
 rw [←hz1] at hc1 ⊢
 clear hz1
 obtain ⟨b1,hb1⟩:∃ b,b=decide (sgn m n≤4096):=⟨_,rfl⟩
 rw [show decide (sgn m n≤((4096:Nat):Int))=b1 from hb1.symm] at hc1
 rw [←hb1] at HR
 clear hb1
 cases b1
 ·refine af (i:=4) (v:=?vv2) rfl (by kernel_rfl) (fun _ _ _ h=>h) rfl ?hy2 ?rest2
  case hy2=>(intro wy;go_simp;try with_reducible rfl)
  try simp only [Act.put,B_,BZ,B6,BV,BY,BW]
  refine af (i:=5) (v:=?vv3) rfl (by kernel_rfl) (fun _ _ _ h=>h) rfl ?hy3 ?rest3
  case hy3=>(intro wy;go_simp;try with_reducible rfl)
  try simp only [Act.put,B_,BZ,B6,BV,BY,BW]
  refine aX (i:=6) rfl (by kernel_rfl) (fun _ _ _ h=>h) (by rfl) ?_
  try simp only [Act.put,B_,BZ,B6,BV,BY,BW]
  refine aX (i:=7) rfl (by kernel_rfl) (fun _ _ _ h=>h) (by rfl) ?_
  try simp only [Act.put,B_,BZ,B6,BV,BY,BW]
  refine aX (i:=8) rfl (by kernel_rfl) (fun _ _ _ h=>h) (by rfl) ?_
  try simp only [Act.put,B_,BZ,B6,BV,BY,BW]
  refine aX (i:=9) rfl (by kernel_rfl) (fun _ _ _ h=>h) (by rfl) ?_
  try simp only [Act.put,B_,BZ,B6,BV,BY,BW]
  refine aX (i:=10) rfl (by kernel_rfl) (fun _ _ _ h=>h) (by rfl) ?_
  try simp only [Act.put,B_,BZ,B6,BV,BY,BW]
  refine aX (i:=11) rfl (by kernel_rfl) (fun _ _ _ h=>h) (by rfl) ?_
  try simp only [Act.put,B_,BZ,B6,BV,BY,BW]
  refine af (i:=12) (v:=?vv4) rfl (by kernel_rfl) (fun _ _ _ h=>h) rfl ?hy4 ?rest4
  case hy4=>(intro wy;go_simp;try with_reducible rfl)
  try simp only [Act.put,B_,BZ,B6,BV,BY,BW]
  refine af (i:=13) (v:=?vv5) rfl (by kernel_rfl) (fun _ _ _ h=>h) rfl ?hy5 ?rest5
  case hy5=>(intro wy;go_simp;try with_reducible rfl)
  try simp only [Act.put,B_,BZ,B6,BV,BY,BW]
  refine aX (i:=14) rfl (by kernel_rfl) (fun _ _ _ h=>h) (by rfl) ?_
  try simp only [Act.put,B_,BZ,B6,BV,BY,BW]
  refine aX (i:=15) rfl (by kernel_rfl) (fun _ _ _ h=>h) (by rfl) ?_
  try simp only [Act.put,B_,BZ,B6,BV,BY,BW]
  refine aX (i:=16) rfl (by kernel_rfl) (fun _ _ _ h=>h) (by rfl) ?_
  try simp only [Act.put,B_,BZ,B6,BV,BY,BW]
  refine aX (i:=17) rfl (by kernel_rfl) (fun _ _ _ h=>h) (by rfl) ?_
  try simp only [Act.put,B_,BZ,B6,BV,BY,BW]
  refine aX (i:=18) rfl (by kernel_rfl) (fun _ _ _ h=>h) (by rfl) ?_
  try simp only [Act.put,B_,BZ,B6,BV,BY,BW]
  refine af (i:=19) (v:=?vv6) rfl (by kernel_rfl) (fun _ _ _ h=>h) rfl ?hy6 ?rest6
  case hy6=>(intro wy;go_simp;try with_reducible rfl)
  try simp only [Act.put,B_,BZ,B6,BV,BY,BW]
  refine af (i:=20) (v:=?vv7) rfl (by kernel_rfl) (fun _ _ _ h=>h) rfl ?hy7 ?rest7
  case hy7=>(intro wy;go_simp;try with_reducible rfl)
  try simp only [Act.put,B_,BZ,B6,BV,BY,BW]
  try simp only [Act.put,B_,BZ,B6,BV,BY,BW]
  refine aA (by kernel_rfl) ?_ _
  simp only [aI]
  go_wp2_with fail
  go_ret
  refine ⟨?_,HB⟩
  rw [←HR.out]
  rfl
 ·refine af (i:=4) (v:=?vv8) rfl (by kernel_rfl) (fun _ _ _ h=>h) rfl ?hy8 ?rest8
  case hy8=>(intro wy;go_simp;try with_reducible rfl)
  try simp only [Act.put,B_,BZ,B6,BV,BY,BW]
  refine af (i:=5) (v:=?vv9) rfl (by kernel_rfl) (fun _ _ _ h=>h) rfl ?hy9 ?rest9
  case hy9=>(intro wy;go_simp;try with_reducible rfl)
  try simp only [Act.put,B_,BZ,B6,BV,BY,BW]
  refine bO (i:=6) (v:=?vvB1) rfl (by kernel_rfl) (fun _ _ _ h=>h) (by rfl) hS ?hyB1 ?restB1
  case hyB1 =>
   intro wy hy
   have q0:=aa hy.1 0
   have q1:=aa hy.1 1
   have q2:=aa hy.1 2
   have q3:=aa hy.1 3
   have e0:=aa hy.2 0
   have e1:=aa hy.2 1
   clear hy
   go_simp
   try with_reducible rfl
  try simp only [Act.put,B_,BZ,B6,BV,BY,BW]
  refine bO (i:=7) (v:=?vvB2) rfl (by kernel_rfl) (fun _ _ _ h=>h) (by rfl) hS ?hyB2 ?restB2
  case hyB2 =>
   intro wy hy
   have q0:=aa hy.1 0
   have q1:=aa hy.1 1
   have q2:=aa hy.1 2
   have q3:=aa hy.1 3
   have e0:=aa hy.2 0
   have e1:=aa hy.2 1
   clear hy
   go_simp
   try with_reducible rfl
  try simp only [Act.put,B_,BZ,B6,BV,BY,BW]
  refine bO (i:=9) (v:=?vvB3) rfl (by kernel_rfl) (fun _ _ _ h=>h) (by rfl) hS ?hyB3 ?restB3
  case hyB3 =>
   intro wy hy
   have q0:=aa hy.1 0
   have q1:=aa hy.1 1
   have q2:=aa hy.1 2
   have q3:=aa hy.1 3
   have e0:=aa hy.2 0
   have e1:=aa hy.2 1
   clear hy
   go_simp
   try with_reducible rfl
  try simp only [Act.put,B_,BZ,B6,BV,BY,BW]
  refine gz (i:=8) rfl (by kernel_rfl) (by rfl) (fun K hK=>?_)
  go_simp
  refine (kE _ _ w5 HN.out).mono ?_
  rintro e w6 ⟨v6,rfl,hz6,hb6⟩
  obtain ⟨p6,N6,c6,rfl,hN6,hNc6,hcm6,hd6⟩:=hz6.parts
  generalize decide (-sgn m n<0)=m6 at *
  clear hd6
  have hS':=And.intro ((hb6.block _ (ac hS.1)).trans hS.1) ((hb6.block _ (ac hS.2)).trans hS.2)
  refine hK _ _ (fun _ _=>hS') ?_
  clear hK K
  try simp only [Act.put,B_,BZ,B6,BV,BY,BW]
  replace HB:=HB.trans (hb6.mono HB.size)
  have HN':=B8 (HN.out.below hb6)
  have HD':=B8 (HD.out.below hb6)
  have HM':=B8 (HM.out.below hb6)
  clear hS HN HD HM
  have hS:=hS'
  have HN:=HN'
  have HD:=HD'
  have HM:=HM'
  clear hS' HN' HD' HM'
  have HZ6:=B8 hz6
  clear hb6 hz6
  refine gz (i:=10) rfl (by kernel_rfl) (by rfl) (fun K hK=>?_)
  go_simp
  refine (nK _ _ _ _ w6 HZ6.out HM.out (Cc HFN2.out (by omega)) (Cc mz (by omega))).mono ?_
  rintro e w7 ⟨rfl,hb7⟩
  have hS':=And.intro ((hb7.block _ (ac hS.1)).trans hS.1) ((hb7.block _ (ac hS.2)).trans hS.2)
  refine hK _ _ (fun _ _=>hS') ?_
  clear hK K
  try simp only [Act.put,B_,BZ,B6,BV,BY,BW]
  replace HB:=HB.trans (hb7.mono HB.size)
  have HN':=B8 (HN.out.below hb7)
  have HD':=B8 (HD.out.below hb7)
  have HM':=B8 (HM.out.below hb7)
  clear hS HN HD HM
  have hS:=hS'
  have HN:=HN'
  have HD:=HD'
  have HM:=HM'
  clear hS' HN' HD' HM'
  clear hb7 HZ6 hc1
  have hc2:=pV (-(sgn m n)) (4096:Nat)
  obtain ⟨z2,hz2⟩:∃ z,z=dt (-(sgn m n)) (4096:Nat):=⟨_,rfl⟩
  rw [←hz2] at hc2 ⊢
  clear hz2
  obtain ⟨b2,hb2⟩:∃ b,b=decide (-(sgn m n)≤4096):=⟨_,rfl⟩
  rw [show decide (-(sgn m n)≤((4096:Nat):Int))=b2 from hb2.symm] at hc2
  rw [←hb2] at HR
  clear hb2
  cases b2
  ·refine bO (i:=11) (v:=?vvC1) rfl (by kernel_rfl) (fun _ _ _ h=>h) (by rfl) hS ?hyC1 ?restC1
   case hyC1 =>
    intro wy hy
    have q0:=aa hy.1 0
    have q1:=aa hy.1 1
    have q2:=aa hy.1 2
    have q3:=aa hy.1 3
    have e0:=aa hy.2 0
    have e1:=aa hy.2 1
    clear hy
    go_simp
    try with_reducible rfl
   try simp only [Act.put,B_,BZ,B6,BV,BY,BW]
   refine af (i:=12) (v:=?vv10) rfl (by kernel_rfl) (fun _ _ _ h=>h) rfl ?hy10 ?rest10
   case hy10=>(intro wy;go_simp;try with_reducible rfl)
   try simp only [Act.put,B_,BZ,B6,BV,BY,BW]
   refine af (i:=13) (v:=?vv11) rfl (by kernel_rfl) (fun _ _ _ h=>h) rfl ?hy11 ?rest11
   case hy11=>(intro wy;go_simp;try with_reducible rfl)
   try simp only [Act.put,B_,BZ,B6,BV,BY,BW]
   refine aX (i:=14) rfl (by kernel_rfl) (fun _ _ _ h=>h) (by rfl) ?_
   try simp only [Act.put,B_,BZ,B6,BV,BY,BW]
   refine aX (i:=15) rfl (by kernel_rfl) (fun _ _ _ h=>h) (by rfl) ?_
   try simp only [Act.put,B_,BZ,B6,BV,BY,BW]
   refine aX (i:=16) rfl (by kernel_rfl) (fun _ _ _ h=>h) (by rfl) ?_
   try simp only [Act.put,B_,BZ,B6,BV,BY,BW]
   refine aX (i:=17) rfl (by kernel_rfl) (fun _ _ _ h=>h) (by rfl) ?_
   try simp only [Act.put,B_,BZ,B6,BV,BY,BW]
   refine aX (i:=18) rfl (by kernel_rfl) (fun _ _ _ h=>h) (by rfl) ?_
   try simp only [Act.put,B_,BZ,B6,BV,BY,BW]
   refine af (i:=19) (v:=?vv12) rfl (by kernel_rfl) (fun _ _ _ h=>h) rfl ?hy12 ?rest12
   case hy12=>(intro wy;go_simp;try with_reducible rfl)
   try simp only [Act.put,B_,BZ,B6,BV,BY,BW]
   refine af (i:=20) (v:=?vv13) rfl (by kernel_rfl) (fun _ _ _ h=>h) rfl ?hy13 ?rest13
   case hy13=>(intro wy;go_simp;try with_reducible rfl)
   try simp only [Act.put,B_,BZ,B6,BV,BY,BW]
   try simp only [Act.put,B_,BZ,B6,BV,BY,BW]
   refine aA (by kernel_rfl) ?_ _
   simp only [aI]
   go_wp2_with fail
   go_ret
   refine ⟨?_,HB⟩
   rw [←HR.out]
   rfl
  ·refine bO (i:=11) (v:=?vvD1) rfl (by kernel_rfl) (fun _ _ _ h=>h) (by rfl) hS ?hyD1 ?restD1
   case hyD1 =>
    intro wy hy
    have q0:=aa hy.1 0
    have q1:=aa hy.1 1
    have q2:=aa hy.1 2
    have q3:=aa hy.1 3
    have e0:=aa hy.2 0
    have e1:=aa hy.2 1
    clear hy
    go_simp
    try with_reducible rfl
   try simp only [Act.put,B_,BZ,B6,BV,BY,BW]
   refine af (i:=12) (v:=?vv14) rfl (by kernel_rfl) (fun _ _ _ h=>h) rfl ?hy14 ?rest14
   case hy14=>(intro wy;go_simp;try with_reducible rfl)
   try simp only [Act.put,B_,BZ,B6,BV,BY,BW]
   refine af (i:=13) (v:=?vv15) rfl (by kernel_rfl) (fun _ _ _ h=>h) rfl ?hy15 ?rest15
   case hy15=>(intro wy;go_simp;try with_reducible rfl)
   try simp only [Act.put,B_,BZ,B6,BV,BY,BW]
   refine bO (i:=14) (v:=?vvD2) rfl (by kernel_rfl) (fun _ _ _ h=>h) (by rfl) hS ?hyD2 ?restD2
   case hyD2 =>
    intro wy hy
    have q0:=aa hy.1 0
    have q1:=aa hy.1 1
    have q2:=aa hy.1 2
    have q3:=aa hy.1 3
    have e0:=aa hy.2 0
    have e1:=aa hy.2 1
    clear hy
    go_simp
    try with_reducible rfl
   try simp only [Act.put,B_,BZ,B6,BV,BY,BW]
   refine bO (i:=15) (v:=?vvD3) rfl (by kernel_rfl) (fun _ _ _ h=>h) (by rfl) hS ?hyD3 ?restD3
   case hyD3 =>
    intro wy hy
    have q0:=aa hy.1 0
    have q1:=aa hy.1 1
    have q2:=aa hy.1 2
    have q3:=aa hy.1 3
    have e0:=aa hy.2 0
    have e1:=aa hy.2 1
    clear hy
    go_simp
    try with_reducible rfl
   try simp only [Act.put,B_,BZ,B6,BV,BY,BW]
   refine bO (i:=16) (v:=?vvD4) rfl (by kernel_rfl) (fun _ _ _ h=>h) (by rfl) hS ?hyD4 ?restD4
   case hyD4 =>
    intro wy hy
    have q0:=aa hy.1 0
    have q1:=aa hy.1 1
    have q2:=aa hy.1 2
    have q3:=aa hy.1 3
    have e0:=aa hy.2 0
    have e1:=aa hy.2 1
    clear hy
    go_simp
    try with_reducible rfl
   try simp only [Act.put,B_,BZ,B6,BV,BY,BW]
   refine gz (i:=17) rfl (by kernel_rfl) (by rfl) (fun K hK=>?_)
   go_simp
   refine (nK _ _ _ _ w7 HD.out HM.out (Cc HFD.out (by omega)) (Cc mz (by omega))).mono ?_
   rintro e w8 ⟨rfl,hb8⟩
   have hS':=And.intro ((hb8.block _ (ac hS.1)).trans hS.1) ((hb8.block _ (ac hS.2)).trans hS.2)
   refine hK _ _ (fun _ _=>hS') ?_
   clear hK K
   try simp only [Act.put,B_,BZ,B6,BV,BY,BW]
   replace HB:=HB.trans (hb8.mono HB.size)
   have HN':=B8 (HN.out.below hb8)
   have HD':=B8 (HD.out.below hb8)
   have HM':=B8 (HM.out.below hb8)
   clear hS HN HD HM
   have hS:=hS'
   have HN:=HN'
   have HD:=HD'
   have HM:=HM'
   clear hS' HN' HD' HM'
   clear hb8 hc2
   have hc3:=pV (d:Int) (4096:Nat)
   obtain ⟨z3,hz3⟩:∃ z,z=dt (d:Int) (4096:Nat):=⟨_,rfl⟩
   rw [←hz3] at hc3 ⊢
   clear hz3
   obtain ⟨b3,hb3⟩:∃ b,b=decide ((d:Int)≤4096):=⟨_,rfl⟩
   rw [show decide ((d:Int)≤((4096:Nat):Int))=b3 from hb3.symm] at hc3
   rw [←hb3] at HR
   clear hb3
   refine bO (i:=18) (v:=?vvD5) rfl (by kernel_rfl) (fun _ _ _ h=>h) (by rfl) hS ?hyD5 ?restD5
   case hyD5 =>
    intro wy hy
    have q0:=aa hy.1 0
    have q1:=aa hy.1 1
    have q2:=aa hy.1 2
    have q3:=aa hy.1 3
    have e0:=aa hy.2 0
    have e1:=aa hy.2 1
    clear hy
    go_simp
    try with_reducible rfl
   try simp only [Act.put,B_,BZ,B6,BV,BY,BW]
   refine af (i:=19) (v:=?vv16) rfl (by kernel_rfl) (fun _ _ _ h=>h) rfl ?hy16 ?rest16
   case hy16=>(intro wy;go_simp;try with_reducible rfl)
   try simp only [Act.put,B_,BZ,B6,BV,BY,BW]
   refine af (i:=20) (v:=?vv17) rfl (by kernel_rfl) (fun _ _ _ h=>h) rfl ?hy17 ?rest17
   case hy17=>(intro wy;go_simp;try with_reducible rfl)
   try simp only [Act.put,B_,BZ,B6,BV,BY,BW]
   try simp only [Act.put,B_,BZ,B6,BV,BY,BW]
   refine aA (by kernel_rfl) ?_ _
   simp only [aI]
   go_wp2_with fail
   go_ret
   refine ⟨?_,HB⟩
   rw [←HR.out]
   rfl
end Go.Proofs.YtnkgbocdpngldaaGreatDoor
