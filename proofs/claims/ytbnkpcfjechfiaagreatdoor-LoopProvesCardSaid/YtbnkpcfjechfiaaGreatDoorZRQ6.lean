/- Lemmas of this claim. -/
import Derived.Test.YtbnkpcfjechfiaaGreatDoorZRQ3
import Derived.Test.YtbnkpcfjechfiaaGreatDoorZRS5
set_option linter.all false
set_option maxRecDepth 100000
set_option maxHeartbeats 8000000
namespace Go.Proofs.YtbnkpcfjechfiaaGreatDoor
open Go.RowKit Dg
theorem Cw {ma mb:Bool}{a b:Nat} (h:ma≠mb) (hle:b≤a):sgn ma (a-b)=sgn ma a+sgn mb b:=by
 unfold sgn
 cases ma<;>cases mb<;>simp at*<;> omega
theorem Cx {ma mb:Bool}{a b:Nat} (h:ma≠mb) (hle:a≤b):sgn mb (b-a)=sgn ma a+sgn mb b:=by
 unfold sgn
 cases ma<;>cases mb<;>simp at*<;> omega
theorem ll (va vb:Value) (x y:Int) (w:World) (ha:IsZ w va x) (hb:IsZ w vb y) (hfa:(aq RR x.natAbs).length<1000000) (hfb:(aq RR y.natAbs).length<1000000) :
  Calls Tryz.prog 159 #[va,vb] w fun e w'=>∃ v,e=.returned v∧IsZ w' v (x+y)∧Below w.heap.size w w':=by
 obtain⟨p,N,c,rfl,hN,hNc,hcm,hd⟩:=ha.parts
 obtain⟨p',N',c',rfl,hN',hNc',hcm',hd'⟩:=hb.parts
 obtain⟨ma,hma⟩:∃ ma,ma=decide (x<0):=⟨_,rfl⟩
 obtain⟨mb,hmb⟩:∃ mb,mb=decide (y<0):=⟨_,rfl⟩
 have EX:=Ff (BO hma)
 have EY:=Ff (BO hmb)
 rw[←hma,←hmb]
 clear hma hmb
 have hl:=nN w (.cells #[.bool ma,.slice p N c] 76) (.cells #[.bool mb,.slice p' N' c'] 76) (.cells #[.bool false,.slice none 0 0] 76)
 have x0:=af hl.s0 0
 have x1:=af hl.s0 1
 have y0:=af hl.s1 0
 have y1:=af hl.s1 1
 have HD:=Ff (hd.below hl.below)
 have HD':=Ff (hd'.below hl.below)
 clear ha hb hd hd'
 go_enter Tryz.func159,Tryz.ntmps159
 go_upto_region 1 with fail
 generalize ((w.alloc (.cells #[.bool ma,.slice p N c] 76)).alloc (.cells #[.bool mb,.slice p' N' c'] 76)).alloc (.cells #[.bool false,.slice none 0 0] 76)=w1 at *
 by_cases hsame:ma=mb
 ·have heq:(ma == mb)=true:=by simp[hsame]
  have HE:=Ff hsame
  clear hsame
  go_upto_region 2 with fail
  have hbd:Below w1.heap.size w1 w1.drew:=(Below.refl _ _).drew
  have hS:oS w1.drew w.heap.size ma p N c mb p' N' c':=oS.below ⟨hl.s0,hl.s1,hl.s2⟩ hbd
  have HB1:=hl.below.trans (hbd.mono hl.below.size)
  have HN1:=Ff (HD.out.below hbd)
  have HD1:=Ff (HD'.out.below hbd)
  clear HD HD' hl hbd x0 x1 y0 y1
  refine wp_mono (ax (Q:=aL _) (fun wx:World=>oS wx w.heap.size ma p N c mb p' N' c') (fun i=>i == 8) (by kernel_rfl) ?_) (fun _ _ _ h=>aU h)
  generalize w1.drew=w2 at *
  refine ai (i:=0) (v:=?vv1) rfl (by kernel_rfl) (fun _ _ _ h=>h) rfl ?hy1 ?rest1
  case hy1=>(intro wy;go_simp;try with_reducible rfl)
  try simp only[Act.put,Fj,Fi,Fh,Fg,Fk,Fl]
  refine ai (i:=2) (v:=?vv2) rfl (by kernel_rfl) (fun _ _ _ h=>h) rfl ?hy2 ?rest2
  case hy2=>(intro wy;go_simp;try with_reducible rfl)
  try simp only[Act.put,Fj,Fi,Fh,Fg,Fk,Fl]
  refine ai (i:=4) (v:=?vv3) rfl (by kernel_rfl) (fun _ _ _ h=>h) rfl ?hy3 ?rest3
  case hy3=>(intro wy;go_simp;try with_reducible rfl)
  try simp only[Act.put,Fj,Fi,Fh,Fg,Fk,Fl]
  refine az (i:=1) (v:=?vvA) rfl (by kernel_rfl) (fun _ _ _ h=>h) rfl hS ?hyA ?restA
  case hyA =>
   intro wy hy
   have q0:=af hy.s0 0
   have q1:=af hy.s0 1
   have q2:=af hy.s1 0
   have q3:=af hy.s1 1
   clear hy
   go_simp
   try with_reducible rfl
  try simp only[Act.put,Fj,Fi,Fh,Fg,Fk,Fl]
  refine az (i:=3) (v:=?vvB) rfl (by kernel_rfl) (fun _ _ _ h=>h) rfl hS ?hyB ?restB
  case hyB =>
   intro wy hy
   have q0:=af hy.s0 0
   have q1:=af hy.s0 1
   have q2:=af hy.s1 0
   have q3:=af hy.s1 1
   clear hy
   go_simp
   try with_reducible rfl
  try simp only[Act.put,Fj,Fi,Fh,Fg,Fk,Fl]
  refine az (i:=5) (v:=?vvC) rfl (by kernel_rfl) (fun _ _ _ h=>h) rfl hS ?hyC ?restC
  case hyC =>
   intro wy hy
   have q0:=af hy.s0 0
   have q1:=af hy.s0 1
   have q2:=af hy.s1 0
   have q3:=af hy.s1 1
   clear hy
   go_simp
   try with_reducible rfl
  try simp only[Act.put,Fj,Fi,Fh,Fg,Fk,Fl]
  refine au (i:=6) rfl (by kernel_rfl) rfl (fun K hK=>?_)
  go_simp
  refine (A5 _ _ _ _ w2 HN1.out HD1.out (aO _).1 (aO _).1 hfa hfb).mono ?_
  rintro e w5 ⟨v5,rfl,hsum,hb5⟩
  rw[ay aF,ay aF] at hsum
  have hS5:=hS.below hb5
  refine hK _ _ (fun _ _=>hS5) ?_
  clear hK K
  try simp only[Act.put,Fj,Fi,Fh,Fg,Fk,Fl]
  have HB5:=HB1.trans (hb5.mono HB1.size)
  obtain⟨o5,ho1,ho2,ho3⟩:=hsum
  refine au (i:=7) rfl (by kernel_rfl) rfl (fun K hK=>?_)
  go_simp
  refine (dF _ _ _ w5 ho1 ho2).mono ?_
  rintro e w6 ⟨v6,rfl,hz6,hb6⟩
  rw[ho3,zU,EX.out,HE.out,EY.out] at hz6
  clear HB1 HN1 HD1 hb5 ho1 ho2 ho3
  obtain⟨p6,N6,c6,rfl,hN6,hNc6,hcm6,hd6⟩:=hz6.parts
  generalize decide (x+y<0)=m6 at *
  have hS6:=hS5.below hb6
  refine hK _ _ (fun _ _=>hS6) ?_
  clear hK K hS hS5
  try simp only[Act.put,Fj,Fi,Fh,Fg,Fk,Fl]
  have HB6:=HB5.trans (hb6.mono HB5.size)
  have hP:=cj (u0:=.bool m6) (u1:=.slice p6 N6 c6) hS6.s2
  have HZ:=Ff (hz6.puts hP hS6.s2 dP)
  have hB:=HB6.trans (hP.below w.heap.size (by omega))
  have q0:=af hS6.s2 0
  have q1:=af hS6.s2 1
  have f0:=frozen_of_row w6 (w.heap.size+1+1) 0 _ _ hS6.s2
  have f1:=frozen_of_row w6 (w.heap.size+1+1) 1 _ _ hS6.s2
  clear hz6 hd6 hb6 HB5
  refine au (i:=8) rfl (by kernel_rfl) rfl (fun K hK=>?_)
  go_simp
  change K _ (gn w6 (w.heap.size+1+1) (.bool m6) (.slice p6 N6 c6))
  refine hK _ _ (fun h=>by cases h) ?_
  clear hK K q0 q1 f0 f1
  try simp only[Act.put,Fj,Fi,Fh,Fg,Fk,Fl]
  refine aH (by kernel_rfl) ?_ _
  simp only[aL]
  go_wp2_with fail
  (try simp only[Exit.inBlock,Exit.then])
  refine bodyPost_ret (results_cell_row rfl _ _ (w.heap.size+1+1) _ _ (0,0) _ rfl hP.row Tryz.underlying76 rfl (by kernel_rfl)) rfl ?_
  exact⟨_,rfl,HZ.out,hB⟩
 ·have heq:(ma == mb)=false:=by simpa using hsame
  have HE:=Ff hsame
  clear hsame
  go_wp2_with fail
  refine (eS _ _ _ _ w1 HD.out HD'.out (aO _) (aO _)).mono ?_
  rintro e w1' ⟨rfl,n1,rfl⟩
  rw[ay aF,ay aF]
  have hbn:=below_drewN (Below.refl w1.heap.size w1) n1
  have hbd:Below w1.heap.size w1 (w1.drewN n1).drew:=hbn.drew
  have hS:oS (w1.drewN n1).drew w.heap.size ma p N c mb p' N' c':=oS.below ⟨hl.s0,hl.s1,hl.s2⟩ hbd
  have HB1:=hl.below.trans (hbd.mono hl.below.size)
  have HN1:=Ff (HD.out.below hbd)
  have HD1:=Ff (HD'.out.below hbd)
  clear HD HD' hl hbd hbn x0 x1 y0 y1
  by_cases hge:y.natAbs≤x.natAbs
  ·have hcg:=(uC hge).1
   obtain⟨cw,hcw⟩:∃ cw,cw=c_ x.natAbs y.natAbs:=⟨_,rfl⟩
   rw[←hcw] at hcg ⊢
   have HGE:=Ff hge
   clear hcw hge
   go_upto_region 4 with fail
   refine wp_mono (ax (Q:=aL _) (fun wx:World=>oS wx w.heap.size ma p N c mb p' N' c') (fun i=>i == 8) (by kernel_rfl) ?_) (fun _ _ _ h=>aU h)
   generalize (w1.drewN n1).drew=w2 at *
   refine ai (i:=0) (v:=?vv4) rfl (by kernel_rfl) (fun _ _ _ h=>h) rfl ?hy4 ?rest4
   case hy4=>(intro wy;go_simp;try with_reducible rfl)
   try simp only[Act.put,Fj,Fi,Fh,Fg,Fk,Fl]
   refine ai (i:=2) (v:=?vv5) rfl (by kernel_rfl) (fun _ _ _ h=>h) rfl ?hy5 ?rest5
   case hy5=>(intro wy;go_simp;try with_reducible rfl)
   try simp only[Act.put,Fj,Fi,Fh,Fg,Fk,Fl]
   refine ai (i:=4) (v:=?vv6) rfl (by kernel_rfl) (fun _ _ _ h=>h) rfl ?hy6 ?rest6
   case hy6=>(intro wy;go_simp;try with_reducible rfl)
   try simp only[Act.put,Fj,Fi,Fh,Fg,Fk,Fl]
   refine az (i:=1) (v:=?vvA1) rfl (by kernel_rfl) (fun _ _ _ h=>h) rfl hS ?hyA1 ?restA1
   case hyA1 =>
    intro wy hy
    have q0:=af hy.s0 0
    have q1:=af hy.s0 1
    have q2:=af hy.s1 0
    have q3:=af hy.s1 1
    clear hy
    go_simp
    try with_reducible rfl
   try simp only[Act.put,Fj,Fi,Fh,Fg,Fk,Fl]
   refine az (i:=3) (v:=?vvB1) rfl (by kernel_rfl) (fun _ _ _ h=>h) rfl hS ?hyB1 ?restB1
   case hyB1 =>
    intro wy hy
    have q0:=af hy.s0 0
    have q1:=af hy.s0 1
    have q2:=af hy.s1 0
    have q3:=af hy.s1 1
    clear hy
    go_simp
    try with_reducible rfl
   try simp only[Act.put,Fj,Fi,Fh,Fg,Fk,Fl]
   refine az (i:=5) (v:=?vvC1) rfl (by kernel_rfl) (fun _ _ _ h=>h) rfl hS ?hyC1 ?restC1
   case hyC1 =>
    intro wy hy
    have q0:=af hy.s0 0
    have q1:=af hy.s0 1
    have q2:=af hy.s1 0
    have q3:=af hy.s1 1
    clear hy
    go_simp
    try with_reducible rfl
   try simp only[Act.put,Fj,Fi,Fh,Fg,Fk,Fl]
   refine au (i:=6) rfl (by kernel_rfl) rfl (fun K hK=>?_)
   go_simp
   refine (nS _ _ _ _ w2 HN1.out HD1.out (aO _).1 (aO _).1 (nQ HGE.out) (by rw[ay aF,ay aF];exact HGE.out) hfa).mono ?_
   rintro e w5 ⟨v5,rfl,hsum,_,hb5⟩
   rw[ay aF,ay aF] at hsum
   have hS5:=hS.below hb5
   refine hK _ _ (fun _ _=>hS5) ?_
   clear hK K
   try simp only[Act.put,Fj,Fi,Fh,Fg,Fk,Fl]
   have HB5:=HB1.trans (hb5.mono HB1.size)
   refine au (i:=7) rfl (by kernel_rfl) rfl (fun K hK=>?_)
   go_simp
   refine (dF _ _ _ w5 hsum (aO _).1).mono ?_
   rintro e w6 ⟨v6,rfl,hz6,hb6⟩
   rw[ay aF,Cw HE.out HGE.out,EX.out,EY.out] at hz6
   clear HB1 HN1 HD1 hb5 hsum
   obtain⟨p6,N6,c6,rfl,hN6,hNc6,hcm6,hd6⟩:=hz6.parts
   generalize decide (x+y<0)=m6 at *
   have hS6:=hS5.below hb6
   refine hK _ _ (fun _ _=>hS6) ?_
   clear hK K hS hS5
   try simp only[Act.put,Fj,Fi,Fh,Fg,Fk,Fl]
   have HB6:=HB5.trans (hb6.mono HB5.size)
   have hP:=cj (u0:=.bool m6) (u1:=.slice p6 N6 c6) hS6.s2
   have HZ:=Ff (hz6.puts hP hS6.s2 dP)
   have hB:=HB6.trans (hP.below w.heap.size (by omega))
   have q0:=af hS6.s2 0
   have q1:=af hS6.s2 1
   have f0:=frozen_of_row w6 (w.heap.size+1+1) 0 _ _ hS6.s2
   have f1:=frozen_of_row w6 (w.heap.size+1+1) 1 _ _ hS6.s2
   clear hz6 hd6 hb6 HB5
   refine au (i:=8) rfl (by kernel_rfl) rfl (fun K hK=>?_)
   go_simp
   change K _ (gn w6 (w.heap.size+1+1) (.bool m6) (.slice p6 N6 c6))
   refine hK _ _ (fun h=>by cases h) ?_
   clear hK K q0 q1 f0 f1
   try simp only[Act.put,Fj,Fi,Fh,Fg,Fk,Fl]
   refine aH (by kernel_rfl) ?_ _
   simp only[aL]
   go_wp2_with fail
   (try simp only[Exit.inBlock,Exit.then])
   refine bodyPost_ret (results_cell_row rfl _ _ (w.heap.size+1+1) _ _ (0,0) _ rfl hP.row Tryz.underlying76 rfl (by kernel_rfl)) rfl ?_
   exact⟨_,rfl,HZ.out,hB⟩
  ·have hcn:=qI (show x.natAbs<y.natAbs by omega)
   rw[hcn]
   have HGE:Hid (x.natAbs≤y.natAbs):=by unfold Hid;omega
   clear hcn hge
   go_upto_region 5 with fail
   refine wp_mono (ax (Q:=aL _) (fun wx:World=>oS wx w.heap.size ma p N c mb p' N' c') (fun i=>i == 8) (by kernel_rfl) ?_) (fun _ _ _ h=>aU h)
   generalize (w1.drewN n1).drew=w2 at *
   refine ai (i:=0) (v:=?vv7) rfl (by kernel_rfl) (fun _ _ _ h=>h) rfl ?hy7 ?rest7
   case hy7=>(intro wy;go_simp;try with_reducible rfl)
   try simp only[Act.put,Fj,Fi,Fh,Fg,Fk,Fl]
   refine ai (i:=2) (v:=?vv8) rfl (by kernel_rfl) (fun _ _ _ h=>h) rfl ?hy8 ?rest8
   case hy8=>(intro wy;go_simp;try with_reducible rfl)
   try simp only[Act.put,Fj,Fi,Fh,Fg,Fk,Fl]
   refine ai (i:=4) (v:=?vv9) rfl (by kernel_rfl) (fun _ _ _ h=>h) rfl ?hy9 ?rest9
   case hy9=>(intro wy;go_simp;try with_reducible rfl)
   try simp only[Act.put,Fj,Fi,Fh,Fg,Fk,Fl]
   refine az (i:=1) (v:=?vvA2) rfl (by kernel_rfl) (fun _ _ _ h=>h) rfl hS ?hyA2 ?restA2
   case hyA2 =>
    intro wy hy
    have q0:=af hy.s0 0
    have q1:=af hy.s0 1
    have q2:=af hy.s1 0
    have q3:=af hy.s1 1
    clear hy
    go_simp
    try with_reducible rfl
   try simp only[Act.put,Fj,Fi,Fh,Fg,Fk,Fl]
   refine az (i:=3) (v:=?vvB2) rfl (by kernel_rfl) (fun _ _ _ h=>h) rfl hS ?hyB2 ?restB2
   case hyB2 =>
    intro wy hy
    have q0:=af hy.s0 0
    have q1:=af hy.s0 1
    have q2:=af hy.s1 0
    have q3:=af hy.s1 1
    clear hy
    go_simp
    try with_reducible rfl
   try simp only[Act.put,Fj,Fi,Fh,Fg,Fk,Fl]
   refine az (i:=5) (v:=?vvC2) rfl (by kernel_rfl) (fun _ _ _ h=>h) rfl hS ?hyC2 ?restC2
   case hyC2 =>
    intro wy hy
    have q0:=af hy.s0 0
    have q1:=af hy.s0 1
    have q2:=af hy.s1 0
    have q3:=af hy.s1 1
    clear hy
    go_simp
    try with_reducible rfl
   try simp only[Act.put,Fj,Fi,Fh,Fg,Fk,Fl]
   refine au (i:=6) rfl (by kernel_rfl) rfl (fun K hK=>?_)
   go_simp
   refine (nS _ _ _ _ w2 HD1.out HN1.out (aO _).1 (aO _).1 (nQ HGE.out) (by rw[ay aF,ay aF];exact HGE.out) hfb).mono ?_
   rintro e w5 ⟨v5,rfl,hsum,_,hb5⟩
   rw[ay aF,ay aF] at hsum
   have hS5:=hS.below hb5
   refine hK _ _ (fun _ _=>hS5) ?_
   clear hK K
   try simp only[Act.put,Fj,Fi,Fh,Fg,Fk,Fl]
   have HB5:=HB1.trans (hb5.mono HB1.size)
   refine au (i:=7) rfl (by kernel_rfl) rfl (fun K hK=>?_)
   go_simp
   refine (dF _ _ _ w5 hsum (aO _).1).mono ?_
   rintro e w6 ⟨v6,rfl,hz6,hb6⟩
   rw[ay aF,Cx HE.out HGE.out,EX.out,EY.out] at hz6
   clear HB1 HN1 HD1 hb5 hsum
   obtain⟨p6,N6,c6,rfl,hN6,hNc6,hcm6,hd6⟩:=hz6.parts
   generalize decide (x+y<0)=m6 at *
   have hS6:=hS5.below hb6
   refine hK _ _ (fun _ _=>hS6) ?_
   clear hK K hS hS5
   try simp only[Act.put,Fj,Fi,Fh,Fg,Fk,Fl]
   have HB6:=HB5.trans (hb6.mono HB5.size)
   have hP:=cj (u0:=.bool m6) (u1:=.slice p6 N6 c6) hS6.s2
   have HZ:=Ff (hz6.puts hP hS6.s2 dP)
   have hB:=HB6.trans (hP.below w.heap.size (by omega))
   have q0:=af hS6.s2 0
   have q1:=af hS6.s2 1
   have f0:=frozen_of_row w6 (w.heap.size+1+1) 0 _ _ hS6.s2
   have f1:=frozen_of_row w6 (w.heap.size+1+1) 1 _ _ hS6.s2
   clear hz6 hd6 hb6 HB5
   refine au (i:=8) rfl (by kernel_rfl) rfl (fun K hK=>?_)
   go_simp
   change K _ (gn w6 (w.heap.size+1+1) (.bool m6) (.slice p6 N6 c6))
   refine hK _ _ (fun h=>by cases h) ?_
   clear hK K q0 q1 f0 f1
   try simp only[Act.put,Fj,Fi,Fh,Fg,Fk,Fl]
   refine aH (by kernel_rfl) ?_ _
   simp only[aL]
   go_wp2_with fail
   (try simp only[Exit.inBlock,Exit.then])
   refine bodyPost_ret (results_cell_row rfl _ _ (w.heap.size+1+1) _ _ (0,0) _ rfl hP.row Tryz.underlying76 rfl (by kernel_rfl)) rfl ?_
   exact⟨_,rfl,HZ.out,hB⟩
def dI (x y:Int):Int:=if x-y=0 then 0 else if x-y<0 then -1 else 1
theorem lm (va vb:Value) (x y:Int) (w:World) (ha:IsZ w va x) (hb:IsZ w vb y) (hfa:(aq RR x.natAbs).length<1000000) (hfb:(aq RR y.natAbs).length<1000000) :
  Calls Tryz.prog 171 #[va,vb] w fun e w'=>e=.returned (.int .i64 (dI x y))∧Below w.heap.size w w':=by
 obtain⟨p,N,c,rfl,hN,hNc,hcm,hd⟩:=ha.parts
 obtain⟨p',N',c',rfl,hN',hNc',hcm',hd'⟩:=hb.parts
 obtain⟨ma,hma⟩:∃ ma,ma=decide (x<0):=⟨_,rfl⟩
 obtain⟨mb,hmb⟩:∃ mb,mb=decide (y<0):=⟨_,rfl⟩
 rw[←hma] at ha ⊢
 rw[←hmb] at hb ⊢
 clear hma hmb
 have hl:=nM w (.cells #[.bool ma,.slice p N c] 76) (.cells #[.bool mb,.slice p' N' c'] 76)
 have HX:=ha.below hl.below
 have HY:=hb.below hl.below
 clear ha hb hd hd'
 go_enter Tryz.func171,Tryz.ntmps171
 go_upto_region 1 with fail
 generalize (w.alloc (.cells #[.bool ma,.slice p N c] 76)).alloc (.cells #[.bool mb,.slice p' N' c'] 76)=w1 at *
 have hbd:Below w1.heap.size w1 w1.drew:=(Below.refl _ _).drew
 have hS:(fun wx:World=>wx.heap[w.heap.size]?=some (.cells #[.bool ma,.slice p N c] 76 (0,0))∧wx.heap[w.heap.size+1]?=some (.cells #[.bool mb,.slice p' N' c'] 76 (0,0))) w1.drew:=⟨(hbd.block _ (ah hl.s0)).trans hl.s0,(hbd.block _ (ah hl.s1)).trans hl.s1⟩
 have HB1:=hl.below.trans (hbd.mono hl.below.size)
 replace HX:=HX.below hbd
 replace HY:=HY.below hbd
 clear hl hbd
 refine wp_mono (ax (Q:=aL _) (fun wx:World=>wx.heap[w.heap.size]?=some (.cells #[.bool ma,.slice p N c] 76 (0,0))∧wx.heap[w.heap.size+1]?=some (.cells #[.bool mb,.slice p' N' c'] 76 (0,0))) (fun i=>i == 5) (by kernel_rfl) ?_) (fun _ _ _ h=>aU h)
 generalize w1.drew=w2 at *
 refine az (i:=0) (v:=?vvA) rfl (by kernel_rfl) (fun _ _ _ h=>h) rfl hS ?hyA ?restA
 case hyA =>
  intro wy hy
  have q0:=af hy.1 0
  have q1:=af hy.1 1
  have q2:=af hy.2 0
  have q3:=af hy.2 1
  clear hy
  go_simp
  try with_reducible rfl
 try simp only[Act.put,Fj,Fi,Fh,Fg,Fk,Fl]
 refine az (i:=1) (v:=?vvB) rfl (by kernel_rfl) (fun _ _ _ h=>h) rfl hS ?hyB ?restB
 case hyB =>
  intro wy hy
  have q0:=af hy.1 0
  have q1:=af hy.1 1
  have q2:=af hy.2 0
  have q3:=af hy.2 1
  clear hy
  go_simp
  try with_reducible rfl
 try simp only[Act.put,Fj,Fi,Fh,Fg,Fk,Fl]
 refine fG (i:=2) (i':=4) rfl rfl (by kernel_rfl) rfl rfl (fun K hK=>?_) (fun K hK=>?_)
 ·go_simp
  refine (iJ _ _ w2 HY).mono ?_
  rintro e w4 ⟨v4,rfl,hz4,hb4⟩
  obtain⟨p4,N4,c4,rfl,hN4,hNc4,hcm4,hd4⟩:=hz4.parts
  have HZ4:=Ff hz4
  have hS4:(fun wx:World=>wx.heap[w.heap.size]?=some (.cells #[.bool ma,.slice p N c] 76 (0,0))∧wx.heap[w.heap.size+1]?=some (.cells #[.bool mb,.slice p' N' c'] 76 (0,0))) w4:=⟨(hb4.block _ (ah hS.1)).trans hS.1,(hb4.block _ (ah hS.2)).trans hS.2⟩
  have HX4:=Ff (HX.below hb4)
  generalize decide (-y<0)=m4 at *
  clear hz4 hd4
  refine hK _ _ (fun _ _=>hS4) ?_
  clear hK K
  have hS:=hS4
  try simp only[Act.put,Fj,Fi,Fh,Fg,Fk,Fl]
  have HB4:=HB1.trans (hb4.mono HB1.size)
  clear HB1 hb4 HX HY
  refine fG (i:=3) (i':=4) rfl rfl (by kernel_rfl) rfl rfl (fun K hK=>?_) (fun K hK=>?_)
  ·go_simp
   refine (ll _ _ _ _ w4 HX4.out HZ4.out hfa (by rw[Hq];exact hfb)).mono ?_
   rintro e w6 ⟨v6,rfl,hz6,hb6⟩
   obtain⟨p6,N6,c6,rfl,hN6,hNc6,hcm6,hd6'⟩:=hz6.parts
   have hd6:=Ff hd6'
   generalize hmm:decide (x+-y<0)=m6
   have hm6:=Ff hmm
   have hS6:(fun wx:World=>wx.heap[w.heap.size]?=some (.cells #[.bool ma,.slice p N c] 76 (0,0))∧wx.heap[w.heap.size+1]?=some (.cells #[.bool mb,.slice p' N' c'] 76 (0,0))) w6:=⟨(hb6.block _ (ah hS.1)).trans hS.1,(hb6.block _ (ah hS.2)).trans hS.2⟩
   clear hmm hz6 hd6'
   refine hK _ _ (fun _ _=>hS6) ?_
   clear hK K
   try simp only[Act.put,Fj,Fi,Fh,Fg,Fk,Fl]
   have HB5:=HB4.trans (hb6.mono HB4.size)
   have hl6:=bQ w6 (.cells #[.bool false,.slice none 0 0] 76)
   refine au (i:=4) rfl (by kernel_rfl) rfl (fun K hK=>?_)
   go_simp
   refine hK _ _ (fun _ h=>⟨(hl6.below.block _ (ah h.1)).trans h.1,(hl6.below.block _ (ah h.2)).trans h.2⟩) ?_
   clear hK K
   try simp only[Act.put,Fj,Fi,Fh,Fg,Fk,Fl]
   have hrw:=hl6.s0
   have HB6:=HB5.trans (hl6.below.mono HB5.size)
   have hgs:w.heap.size≤w6.heap.size:=HB5.size
   clear HB4 HB5 HX4 HZ4 hb6 hl6
   generalize w6.heap.size=g at *
   generalize w6.alloc (.cells #[.bool false,.slice none 0 0] 76)=w8 at *
   have q0:=af hrw 0
   have q1:=af hrw 1
   have f0:=frozen_of_row w8 g 0 _ _ hrw
   have f1:=frozen_of_row w8 g 1 _ _ hrw
   have hP:=cj (u0:=.bool m6) (u1:=.slice p6 N6 c6) hrw
   refine au (i:=5) rfl (by kernel_rfl) rfl (fun K hK=>?_)
   go_simp
   change K _ (gn w8 g (.bool m6) (.slice p6 N6 c6))
   refine hK _ _ (fun h=>by cases h) ?_
   clear hK K q0 q1 f0 f1
   try simp only[Act.put,Fj,Fi,Fh,Fg,Fk,Fl]
   refine aH (by kernel_rfl) ?_ _
   simp only[aL]
   have hrow:=hP.row
   have HB7:=HB6.trans (hP.below w.heap.size hgs)
   clear hP hrw HB6
   generalize gn w8 g (.bool m6) (.slice p6 N6 c6)=w7 at *
   have q0:=af hrow 0
   have q1:=af hrow 1
   by_cases h0:N6=0
   ·have hz0:=(eV hd6.out).1 h0
    have hres:dI x y=0:=by unfold dI;rw[if_pos (by omega)]
    have HRES:=Ff hres
    subst h0
    clear hz0 hres
    go_wp2
    go_ret
    exact⟨by rw[HRES.out];rfl,HB7⟩
   ·have hz0:¬ (x+-y).natAbs=0:=fun e=>h0 ((eV hd6.out).2 e)
    have hne:((N6:Int) == 0)=false:=by simp;omega
    have H0:=Ff h0
    clear h0
    cases m6
    ·have hres:dI x y=1:=by
      have:=hm6.out
      simp at this
      unfold dI;rw[if_neg (by omega),if_neg (by omega)]
     have HRES:=Ff hres
     clear hz0 hres
     go_wp2
     go_ret
     exact⟨by rw[HRES.out];rfl,HB7⟩
    ·have hres:dI x y=-1:=by
      have:=hm6.out
      simp at this
      unfold dI;rw[if_neg (by omega),if_pos (by omega)]
     have HRES:=Ff hres
     clear hz0 hres
     go_wp2
     go_ret
     exact⟨by rw[HRES.out];rfl,HB7⟩
  ·go_simp
   have hl4:=bQ w4 (.cells #[.bool false,.slice none 0 0] 76)
   have hSn:(fun wx:World=>wx.heap[w.heap.size]?=some (.cells #[.bool ma,.slice p N c] 76 (0,0))∧wx.heap[w.heap.size+1]?=some (.cells #[.bool mb,.slice p' N' c'] 76 (0,0))) (w4.alloc (.cells #[.bool false,.slice none 0 0] 76)):=⟨(hl4.below.block _ (ah hS.1)).trans hS.1,(hl4.below.block _ (ah hS.2)).trans hS.2⟩
   refine hK _ _ (fun _ _=>hSn) ?_
   clear hK K hS hS4
   have hS:=hSn
   try simp only[Act.put,Fj,Fi,Fh,Fg,Fk,Fl]
   have HX4':=Ff (HX4.out.below hl4.below)
   have HZ4':=Ff (HZ4.out.below hl4.below)
   have hrz:=hl4.s0
   have HB5:=HB4.trans (hl4.below.mono HB4.size)
   have hgs:w.heap.size≤w4.heap.size:=HB4.size
   clear HB4 HX4 HZ4 hl4 hSn
   have HX4:=HX4'
   have HZ4:=HZ4'
   clear HX4' HZ4'
   generalize w4.heap.size=g at *
   generalize w4.alloc (.cells #[.bool false,.slice none 0 0] 76)=w5 at *
   refine au (i:=3) rfl (by kernel_rfl) rfl (fun K hK=>?_)
   go_simp
   refine (ll _ _ _ _ w5 HX4.out HZ4.out hfa (by rw[Hq];exact hfb)).mono ?_
   rintro e w6 ⟨v6,rfl,hz6,hb6⟩
   obtain⟨p6,N6,c6,rfl,hN6,hNc6,hcm6,hd6'⟩:=hz6.parts
   have hd6:=Ff hd6'
   generalize hmm:decide (x+-y<0)=m6
   have hm6:=Ff hmm
   have hS6:(fun wx:World=>wx.heap[w.heap.size]?=some (.cells #[.bool ma,.slice p N c] 76 (0,0))∧wx.heap[w.heap.size+1]?=some (.cells #[.bool mb,.slice p' N' c'] 76 (0,0))) w6:=⟨(hb6.block _ (ah hS.1)).trans hS.1,(hb6.block _ (ah hS.2)).trans hS.2⟩
   clear hmm hz6 hd6'
   refine hK _ _ (fun _ _=>hS6) ?_
   clear hK K
   try simp only[Act.put,Fj,Fi,Fh,Fg,Fk,Fl]
   have hrw:=(hb6.block _ (ah hrz)).trans hrz
   have HB6:=HB5.trans (hb6.mono HB5.size)
   clear hb6 hrz HB5 HX4 HZ4
   have q0:=af hrw 0
   have q1:=af hrw 1
   have f0:=frozen_of_row w6 g 0 _ _ hrw
   have f1:=frozen_of_row w6 g 1 _ _ hrw
   have hP:=cj (u0:=.bool m6) (u1:=.slice p6 N6 c6) hrw
   refine au (i:=5) rfl (by kernel_rfl) rfl (fun K hK=>?_)
   go_simp
   change K _ (gn w6 g (.bool m6) (.slice p6 N6 c6))
   refine hK _ _ (fun h=>by cases h) ?_
   clear hK K q0 q1 f0 f1
   try simp only[Act.put,Fj,Fi,Fh,Fg,Fk,Fl]
   refine aH (by kernel_rfl) ?_ _
   simp only[aL]
   have hrow:=hP.row
   have HB7:=HB6.trans (hP.below w.heap.size hgs)
   clear hP hrw HB6
   generalize gn w6 g (.bool m6) (.slice p6 N6 c6)=w7 at *
   have q0:=af hrow 0
   have q1:=af hrow 1
   by_cases h0:N6=0
   ·have hz0:=(eV hd6.out).1 h0
    have hres:dI x y=0:=by unfold dI;rw[if_pos (by omega)]
    have HRES:=Ff hres
    subst h0
    clear hz0 hres
    go_wp2
    go_ret
    exact⟨by rw[HRES.out];rfl,HB7⟩
   ·have hz0:¬ (x+-y).natAbs=0:=fun e=>h0 ((eV hd6.out).2 e)
    have hne:((N6:Int) == 0)=false:=by simp;omega
    have H0:=Ff h0
    clear h0
    cases m6
    ·have hres:dI x y=1:=by
      have:=hm6.out
      simp at this
      unfold dI;rw[if_neg (by omega),if_neg (by omega)]
     have HRES:=Ff hres
     clear hz0 hres
     go_wp2
     go_ret
     exact⟨by rw[HRES.out];rfl,HB7⟩
    ·have hres:dI x y=-1:=by
      have:=hm6.out
      simp at this
      unfold dI;rw[if_neg (by omega),if_pos (by omega)]
     have HRES:=Ff hres
     clear hz0 hres
     go_wp2
     go_ret
     exact⟨by rw[HRES.out];rfl,HB7⟩
 ·go_simp
  have hl4:=bQ w2 (.cells #[.bool false,.slice none 0 0] 76)
  have hSn:(fun wx:World=>wx.heap[w.heap.size]?=some (.cells #[.bool ma,.slice p N c] 76 (0,0))∧wx.heap[w.heap.size+1]?=some (.cells #[.bool mb,.slice p' N' c'] 76 (0,0))) (w2.alloc (.cells #[.bool false,.slice none 0 0] 76)):=⟨(hl4.below.block _ (ah hS.1)).trans hS.1,(hl4.below.block _ (ah hS.2)).trans hS.2⟩
  refine hK _ _ (fun _ _=>hSn) ?_
  clear hK K hS
  have hS:=hSn
  try simp only[Act.put,Fj,Fi,Fh,Fg,Fk,Fl]
  replace HX:=HX.below hl4.below
  replace HY:=HY.below hl4.below
  have hrz:=hl4.s0
  have HB5:=HB1.trans (hl4.below.mono HB1.size)
  have hgs:w.heap.size≤w2.heap.size:=HB1.size
  clear HB1 hl4 hSn
  generalize w2.heap.size=g at *
  generalize w2.alloc (.cells #[.bool false,.slice none 0 0] 76)=w5 at *
  refine au (i:=2) rfl (by kernel_rfl) rfl (fun K hK=>?_)
  go_simp
  refine (iJ _ _ w5 HY).mono ?_
  rintro e w4 ⟨v4,rfl,hz4,hb4⟩
  obtain⟨p4,N4,c4,rfl,hN4,hNc4,hcm4,hd4⟩:=hz4.parts
  have HZ4:=Ff hz4
  have hS4:(fun wx:World=>wx.heap[w.heap.size]?=some (.cells #[.bool ma,.slice p N c] 76 (0,0))∧wx.heap[w.heap.size+1]?=some (.cells #[.bool mb,.slice p' N' c'] 76 (0,0))) w4:=⟨(hb4.block _ (ah hS.1)).trans hS.1,(hb4.block _ (ah hS.2)).trans hS.2⟩
  have HX4:=Ff (HX.below hb4)
  generalize decide (-y<0)=m4 at *
  clear hz4 hd4
  refine hK _ _ (fun _ _=>hS4) ?_
  clear hK K
  have hS:=hS4
  try simp only[Act.put,Fj,Fi,Fh,Fg,Fk,Fl]
  have HB4:=HB5.trans (hb4.mono HB5.size)
  have hrz4:=(hb4.block _ (ah hrz)).trans hrz
  clear HB5 hb4 HX HY hrz
  refine au (i:=3) rfl (by kernel_rfl) rfl (fun K hK=>?_)
  go_simp
  refine (ll _ _ _ _ w4 HX4.out HZ4.out hfa (by rw[Hq];exact hfb)).mono ?_
  rintro e w6 ⟨v6,rfl,hz6,hb6⟩
  obtain⟨p6,N6,c6,rfl,hN6,hNc6,hcm6,hd6'⟩:=hz6.parts
  have hd6:=Ff hd6'
  generalize hmm:decide (x+-y<0)=m6
  have hm6:=Ff hmm
  have hS6:(fun wx:World=>wx.heap[w.heap.size]?=some (.cells #[.bool ma,.slice p N c] 76 (0,0))∧wx.heap[w.heap.size+1]?=some (.cells #[.bool mb,.slice p' N' c'] 76 (0,0))) w6:=⟨(hb6.block _ (ah hS.1)).trans hS.1,(hb6.block _ (ah hS.2)).trans hS.2⟩
  clear hmm hz6 hd6'
  refine hK _ _ (fun _ _=>hS6) ?_
  clear hK K
  try simp only[Act.put,Fj,Fi,Fh,Fg,Fk,Fl]
  have hrw:=(hb6.block _ (ah hrz4)).trans hrz4
  have HB6:=HB4.trans (hb6.mono HB4.size)
  clear hb6 hrz4 HB4 HX4 HZ4
  have q0:=af hrw 0
  have q1:=af hrw 1
  have f0:=frozen_of_row w6 g 0 _ _ hrw
  have f1:=frozen_of_row w6 g 1 _ _ hrw
  have hP:=cj (u0:=.bool m6) (u1:=.slice p6 N6 c6) hrw
  refine au (i:=5) rfl (by kernel_rfl) rfl (fun K hK=>?_)
  go_simp
  change K _ (gn w6 g (.bool m6) (.slice p6 N6 c6))
  refine hK _ _ (fun h=>by cases h) ?_
  clear hK K q0 q1 f0 f1
  try simp only[Act.put,Fj,Fi,Fh,Fg,Fk,Fl]
  refine aH (by kernel_rfl) ?_ _
  simp only[aL]
  have hrow:=hP.row
  have HB7:=HB6.trans (hP.below w.heap.size hgs)
  clear hP hrw HB6
  generalize gn w6 g (.bool m6) (.slice p6 N6 c6)=w7 at *
  have q0:=af hrow 0
  have q1:=af hrow 1
  by_cases h0:N6=0
  ·have hz0:=(eV hd6.out).1 h0
   have hres:dI x y=0:=by unfold dI;rw[if_pos (by omega)]
   have HRES:=Ff hres
   subst h0
   clear hz0 hres
   go_wp2
   go_ret
   exact⟨by rw[HRES.out];rfl,HB7⟩
  ·have hz0:¬ (x+-y).natAbs=0:=fun e=>h0 ((eV hd6.out).2 e)
   have hne:((N6:Int) == 0)=false:=by simp;omega
   have H0:=Ff h0
   clear h0
   cases m6
   ·have hres:dI x y=1:=by
     have:=hm6.out
     simp at this
     unfold dI;rw[if_neg (by omega),if_neg (by omega)]
    have HRES:=Ff hres
    clear hz0 hres
    go_wp2
    go_ret
    exact⟨by rw[HRES.out];rfl,HB7⟩
   ·have hres:dI x y=-1:=by
     have:=hm6.out
     simp at this
     unfold dI;rw[if_neg (by omega),if_pos (by omega)]
    have HRES:=Ff hres
    clear hz0 hres
    go_wp2
    go_ret
    exact⟨by rw[HRES.out];rfl,HB7⟩
open Go.RowKit Dg Dc
theorem rL (x y:Int):decide (dI x y≤0)=decide (x≤y):=by
 unfold dI
 rw[decide_eq_decide]
 split
 ·omega
 ·split<;>omega
theorem vN (m:Bool) (n d:Nat):((decide (sgn m n≤4096)&&decide (-(sgn m n)≤4096))&&decide ((d:Int)≤4096))=(decide (n≤4096)&&decide (d≤4096)):=by
 unfold sgn
 rw[G_]
 cases m<;>simp<;>omega
theorem nA:bg 4096:=by
 unfold bg
 have:=aT aF (n:=4096) (k:=1) (by unfold RR;omega)
 omega
theorem oB (v:Value) (r:Rt) (w:World) (hv:dC w v r) (hc:r.minus=true→r.n≠0) (hfn:bg r.n) (hfd:bg r.d) :
  Calls Tryz.prog 116 #[v] w fun e w'=>e=.returned (.bool (ec r))∧Below w.heap.size w w':=by
 obtain⟨p,N,c,p',N',c',rfl,hN,hNc,hcm,hN',hNc',hcm',hdn,hdd⟩:=hv.parts
 obtain⟨m,n,d⟩:=r
 simp only at *
 have hl:=bQ w (.cells #[.bool m,.slice p N c,.bool false,.slice p' N' c'] 78)
 have HN:=Ff ((uT (m:=m) hdn hc).below hl.below)
 have HD:=Ff ((iQ hdd).below hl.below)
 have hr0:=hl.s0
 have HB:=hl.below
 have HR:Hid (((decide (sgn m n≤4096)&&decide (-(sgn m n)≤4096))&&decide ((d:Int)≤4096))=ec ⟨m,n,d⟩):=vN m n d
 have HFN:Hid (bg (sgn m n).natAbs):=by unfold Hid;rw[h_];exact hfn
 have HFN2:Hid (bg (-(sgn m n)).natAbs):=by unfold Hid;rw[Hq,h_];exact hfn
 have HFD:Hid (bg (d:Int).natAbs):=by unfold Hid;rw[FT];exact hfd
 clear hv hl hdn hdd hc hfn hfd
 go_enter Tryz.func116,Tryz.ntmps116
 go_upto_region 1 with fail
 generalize w.alloc (.cells #[.bool m,.slice p N c,.bool false,.slice p' N' c'] 78)=w1 at *
 go_wp2_with fail
 refine (i_ 4096 (by omega) w1).mono ?_
 rintro e w2 ⟨v2,rfl,hz2,hb2⟩
 obtain⟨p2,N2,c2,rfl,hN2,hNc2,hcm2,hd2⟩:=hz2.nat
 have hl2:=bQ w2 (.cells #[.bool false,.slice p2 N2 c2] 76)
 have hb3:=hb2.trans (hl2.below.mono hb2.size)
 have hr1:=(hb3.block _ (ah hr0)).trans hr0
 have HB3:=HB.trans (hb3.mono HB.size)
 have HN3:=Ff (HN.out.below hb3)
 have HD3:=Ff (HD.out.below hb3)
 have HM3:=Ff ((iQ hd2).below hl2.below)
 have hr3:=hl2.s0
 clear hl2 hb2 hb3 hz2 hd2 hr0 HB HN HD
 go_upto_region 2 with fail
 generalize w2.alloc (.cells #[.bool false,.slice p2 N2 c2] 76)=w3 at *
 generalize w2.heap.size=g3 at *
 have hbd:Below w3.heap.size w3 w3.drew:=(Below.refl _ _).drew
 have hS:(fun wx:World=>wx.heap[w.heap.size]?=some (.cells #[.bool m,.slice p N c,.bool false,.slice p' N' c'] 78 (0,0))∧wx.heap[g3]?=some (.cells #[.bool false,.slice p2 N2 c2] 76 (0,0))) w3.drew:=⟨(hbd.block _ (ah hr1)).trans hr1,(hbd.block _ (ah hr3)).trans hr3⟩
 have HB:=HB3.trans (hbd.mono HB3.size)
 have HN:=Ff (HN3.out.below hbd)
 have HD:=Ff (HD3.out.below hbd)
 have HM:=Ff (HM3.out.below hbd)
 refine wp_mono (ax (Q:=aL _) (fun wx:World=>wx.heap[w.heap.size]?=some (.cells #[.bool m,.slice p N c,.bool false,.slice p' N' c'] 78 (0,0))∧wx.heap[g3]?=some (.cells #[.bool false,.slice p2 N2 c2] 76 (0,0))) (fun _=>false) (by kernel_rfl) ?_) (fun _ _ _ h=>aU h)
 clear hbd hr1 hr3 HB3 HN3 HD3 HM3
 generalize w3.drew=w4 at *
 refine ai (i:=0) (v:=?vv1) rfl (by kernel_rfl) (fun _ _ _ h=>h) rfl ?hy1 ?rest1
 case hy1=>(intro wy;go_simp;try with_reducible rfl)
 try simp only[Act.put,Fj,Fi,Fh,Fg,Fk,Fl]
 refine az (i:=1) (v:=?vvA1) rfl (by kernel_rfl) (fun _ _ _ h=>h) (by rfl) hS ?hyA1 ?restA1
 case hyA1 =>
  intro wy hy
  have q0:=af hy.1 0
  have q1:=af hy.1 1
  have q2:=af hy.1 2
  have q3:=af hy.1 3
  have e0:=af hy.2 0
  have e1:=af hy.2 1
  clear hy
  go_simp
  try with_reducible rfl
 try simp only[Act.put,Fj,Fi,Fh,Fg,Fk,Fl]
 refine az (i:=2) (v:=?vvA2) rfl (by kernel_rfl) (fun _ _ _ h=>h) (by rfl) hS ?hyA2 ?restA2
 case hyA2 =>
  intro wy hy
  have q0:=af hy.1 0
  have q1:=af hy.1 1
  have q2:=af hy.1 2
  have q3:=af hy.1 3
  have e0:=af hy.2 0
  have e1:=af hy.2 1
  clear hy
  go_simp
  try with_reducible rfl
 try simp only[Act.put,Fj,Fi,Fh,Fg,Fk,Fl]
 refine au (i:=3) rfl (by kernel_rfl) rfl (fun K hK=>?_)
 go_simp
 refine (lm _ _ _ _ w4 HN.out HM.out (Fo HFN.out (by omega)) (Fo nA (by omega))).mono ?_
 rintro e w5 ⟨rfl,hb5⟩
 have hS':=And.intro ((hb5.block _ (ah hS.1)).trans hS.1) ((hb5.block _ (ah hS.2)).trans hS.2)
 refine hK _ _ (fun _ _=>hS') ?_
 clear hK K
 try simp only[Act.put,Fj,Fi,Fh,Fg,Fk,Fl]
 replace HB:=HB.trans (hb5.mono HB.size)
 have HN':=Ff (HN.out.below hb5)
 have HD':=Ff (HD.out.below hb5)
 have HM':=Ff (HM.out.below hb5)
 clear hS HN HD HM
 have hS:=hS'
 have HN:=HN'
 have HD:=HD'
 have HM:=HM'
 clear hS' HN' HD' HM'
 clear hb5
 have hc1:=rL (sgn m n) (4096:Nat)
 obtain⟨z1,hz1⟩:∃ z,z=dI (sgn m n) (4096:Nat):=⟨_,rfl⟩
 rw[←hz1] at hc1 ⊢
 clear hz1
 obtain⟨b1,hb1⟩:∃ b,b=decide (sgn m n≤4096):=⟨_,rfl⟩
 rw[show decide (sgn m n≤((4096:Nat):Int))=b1 from hb1.symm] at hc1
 rw[←hb1] at HR
 clear hb1
 cases b1
 ·refine ai (i:=4) (v:=?vv2) rfl (by kernel_rfl) (fun _ _ _ h=>h) rfl ?hy2 ?rest2
  case hy2=>(intro wy;go_simp;try with_reducible rfl)
  try simp only[Act.put,Fj,Fi,Fh,Fg,Fk,Fl]
  refine ai (i:=5) (v:=?vv3) rfl (by kernel_rfl) (fun _ _ _ h=>h) rfl ?hy3 ?rest3
  case hy3=>(intro wy;go_simp;try with_reducible rfl)
  try simp only[Act.put,Fj,Fi,Fh,Fg,Fk,Fl]
  refine aV (i:=6) rfl (by kernel_rfl) (fun _ _ _ h=>h) (by rfl) ?_
  try simp only[Act.put,Fj,Fi,Fh,Fg,Fk,Fl]
  refine aV (i:=7) rfl (by kernel_rfl) (fun _ _ _ h=>h) (by rfl) ?_
  try simp only[Act.put,Fj,Fi,Fh,Fg,Fk,Fl]
  refine aV (i:=8) rfl (by kernel_rfl) (fun _ _ _ h=>h) (by rfl) ?_
  try simp only[Act.put,Fj,Fi,Fh,Fg,Fk,Fl]
  refine aV (i:=9) rfl (by kernel_rfl) (fun _ _ _ h=>h) (by rfl) ?_
  try simp only[Act.put,Fj,Fi,Fh,Fg,Fk,Fl]
  refine aV (i:=10) rfl (by kernel_rfl) (fun _ _ _ h=>h) (by rfl) ?_
  try simp only[Act.put,Fj,Fi,Fh,Fg,Fk,Fl]
  refine aV (i:=11) rfl (by kernel_rfl) (fun _ _ _ h=>h) (by rfl) ?_
  try simp only[Act.put,Fj,Fi,Fh,Fg,Fk,Fl]
  refine ai (i:=12) (v:=?vv4) rfl (by kernel_rfl) (fun _ _ _ h=>h) rfl ?hy4 ?rest4
  case hy4=>(intro wy;go_simp;try with_reducible rfl)
  try simp only[Act.put,Fj,Fi,Fh,Fg,Fk,Fl]
  refine ai (i:=13) (v:=?vv5) rfl (by kernel_rfl) (fun _ _ _ h=>h) rfl ?hy5 ?rest5
  case hy5=>(intro wy;go_simp;try with_reducible rfl)
  try simp only[Act.put,Fj,Fi,Fh,Fg,Fk,Fl]
  refine aV (i:=14) rfl (by kernel_rfl) (fun _ _ _ h=>h) (by rfl) ?_
  try simp only[Act.put,Fj,Fi,Fh,Fg,Fk,Fl]
  refine aV (i:=15) rfl (by kernel_rfl) (fun _ _ _ h=>h) (by rfl) ?_
  try simp only[Act.put,Fj,Fi,Fh,Fg,Fk,Fl]
  refine aV (i:=16) rfl (by kernel_rfl) (fun _ _ _ h=>h) (by rfl) ?_
  try simp only[Act.put,Fj,Fi,Fh,Fg,Fk,Fl]
  refine aV (i:=17) rfl (by kernel_rfl) (fun _ _ _ h=>h) (by rfl) ?_
  try simp only[Act.put,Fj,Fi,Fh,Fg,Fk,Fl]
  refine aV (i:=18) rfl (by kernel_rfl) (fun _ _ _ h=>h) (by rfl) ?_
  try simp only[Act.put,Fj,Fi,Fh,Fg,Fk,Fl]
  refine ai (i:=19) (v:=?vv6) rfl (by kernel_rfl) (fun _ _ _ h=>h) rfl ?hy6 ?rest6
  case hy6=>(intro wy;go_simp;try with_reducible rfl)
  try simp only[Act.put,Fj,Fi,Fh,Fg,Fk,Fl]
  refine ai (i:=20) (v:=?vv7) rfl (by kernel_rfl) (fun _ _ _ h=>h) rfl ?hy7 ?rest7
  case hy7=>(intro wy;go_simp;try with_reducible rfl)
  try simp only[Act.put,Fj,Fi,Fh,Fg,Fk,Fl]
  try simp only[Act.put,Fj,Fi,Fh,Fg,Fk,Fl]
  refine aH (by kernel_rfl) ?_ _
  simp only[aL]
  go_wp2_with fail
  go_ret
  refine⟨?_,HB⟩
  rw[←HR.out]
  rfl
 ·refine ai (i:=4) (v:=?vv8) rfl (by kernel_rfl) (fun _ _ _ h=>h) rfl ?hy8 ?rest8
  case hy8=>(intro wy;go_simp;try with_reducible rfl)
  try simp only[Act.put,Fj,Fi,Fh,Fg,Fk,Fl]
  refine ai (i:=5) (v:=?vv9) rfl (by kernel_rfl) (fun _ _ _ h=>h) rfl ?hy9 ?rest9
  case hy9=>(intro wy;go_simp;try with_reducible rfl)
  try simp only[Act.put,Fj,Fi,Fh,Fg,Fk,Fl]
  refine bJ (i:=6) (v:=?vvB1) rfl (by kernel_rfl) (fun _ _ _ h=>h) (by rfl) hS ?hyB1 ?restB1
  case hyB1 =>
   intro wy hy
   have q0:=af hy.1 0
   have q1:=af hy.1 1
   have q2:=af hy.1 2
   have q3:=af hy.1 3
   have e0:=af hy.2 0
   have e1:=af hy.2 1
   clear hy
   go_simp
   try with_reducible rfl
  try simp only[Act.put,Fj,Fi,Fh,Fg,Fk,Fl]
  refine bJ (i:=7) (v:=?vvB2) rfl (by kernel_rfl) (fun _ _ _ h=>h) (by rfl) hS ?hyB2 ?restB2
  case hyB2 =>
   intro wy hy
   have q0:=af hy.1 0
   have q1:=af hy.1 1
   have q2:=af hy.1 2
   have q3:=af hy.1 3
   have e0:=af hy.2 0
   have e1:=af hy.2 1
   clear hy
   go_simp
   try with_reducible rfl
  try simp only[Act.put,Fj,Fi,Fh,Fg,Fk,Fl]
  refine bJ (i:=9) (v:=?vvB3) rfl (by kernel_rfl) (fun _ _ _ h=>h) (by rfl) hS ?hyB3 ?restB3
  case hyB3 =>
   intro wy hy
   have q0:=af hy.1 0
   have q1:=af hy.1 1
   have q2:=af hy.1 2
   have q3:=af hy.1 3
   have e0:=af hy.2 0
   have e1:=af hy.2 1
   clear hy
   go_simp
   try with_reducible rfl
  try simp only[Act.put,Fj,Fi,Fh,Fg,Fk,Fl]
  refine ff (i:=8) rfl (by kernel_rfl) (by rfl) (fun K hK=>?_)
  go_simp
  refine (iJ _ _ w5 HN.out).mono ?_
  rintro e w6 ⟨v6,rfl,hz6,hb6⟩
  obtain⟨p6,N6,c6,rfl,hN6,hNc6,hcm6,hd6⟩:=hz6.parts
  generalize decide (-sgn m n<0)=m6 at *
  clear hd6
  have hS':=And.intro ((hb6.block _ (ah hS.1)).trans hS.1) ((hb6.block _ (ah hS.2)).trans hS.2)
  refine hK _ _ (fun _ _=>hS') ?_
  clear hK K
  try simp only[Act.put,Fj,Fi,Fh,Fg,Fk,Fl]
  replace HB:=HB.trans (hb6.mono HB.size)
  have HN':=Ff (HN.out.below hb6)
  have HD':=Ff (HD.out.below hb6)
  have HM':=Ff (HM.out.below hb6)
  clear hS HN HD HM
  have hS:=hS'
  have HN:=HN'
  have HD:=HD'
  have HM:=HM'
  clear hS' HN' HD' HM'
  have HZ6:=Ff hz6
  clear hb6 hz6
  refine ff (i:=10) rfl (by kernel_rfl) (by rfl) (fun K hK=>?_)
  go_simp
  refine (lm _ _ _ _ w6 HZ6.out HM.out (Fo HFN2.out (by omega)) (Fo nA (by omega))).mono ?_
  rintro e w7 ⟨rfl,hb7⟩
  have hS':=And.intro ((hb7.block _ (ah hS.1)).trans hS.1) ((hb7.block _ (ah hS.2)).trans hS.2)
  refine hK _ _ (fun _ _=>hS') ?_
  clear hK K
  try simp only[Act.put,Fj,Fi,Fh,Fg,Fk,Fl]
  replace HB:=HB.trans (hb7.mono HB.size)
  have HN':=Ff (HN.out.below hb7)
  have HD':=Ff (HD.out.below hb7)
  have HM':=Ff (HM.out.below hb7)
  clear hS HN HD HM
  have hS:=hS'
  have HN:=HN'
  have HD:=HD'
  have HM:=HM'
  clear hS' HN' HD' HM'
  clear hb7 HZ6 hc1
  have hc2:=rL (-(sgn m n)) (4096:Nat)
  obtain⟨z2,hz2⟩:∃ z,z=dI (-(sgn m n)) (4096:Nat):=⟨_,rfl⟩
  rw[←hz2] at hc2 ⊢
  clear hz2
  obtain⟨b2,hb2⟩:∃ b,b=decide (-(sgn m n)≤4096):=⟨_,rfl⟩
  rw[show decide (-(sgn m n)≤((4096:Nat):Int))=b2 from hb2.symm] at hc2
  rw[←hb2] at HR
  clear hb2
  cases b2
  ·refine bJ (i:=11) (v:=?vvC1) rfl (by kernel_rfl) (fun _ _ _ h=>h) (by rfl) hS ?hyC1 ?restC1
   case hyC1 =>
    intro wy hy
    have q0:=af hy.1 0
    have q1:=af hy.1 1
    have q2:=af hy.1 2
    have q3:=af hy.1 3
    have e0:=af hy.2 0
    have e1:=af hy.2 1
    clear hy
    go_simp
    try with_reducible rfl
   try simp only[Act.put,Fj,Fi,Fh,Fg,Fk,Fl]
   refine ai (i:=12) (v:=?vv10) rfl (by kernel_rfl) (fun _ _ _ h=>h) rfl ?hy10 ?rest10
   case hy10=>(intro wy;go_simp;try with_reducible rfl)
   try simp only[Act.put,Fj,Fi,Fh,Fg,Fk,Fl]
   refine ai (i:=13) (v:=?vv11) rfl (by kernel_rfl) (fun _ _ _ h=>h) rfl ?hy11 ?rest11
   case hy11=>(intro wy;go_simp;try with_reducible rfl)
   try simp only[Act.put,Fj,Fi,Fh,Fg,Fk,Fl]
   refine aV (i:=14) rfl (by kernel_rfl) (fun _ _ _ h=>h) (by rfl) ?_
   try simp only[Act.put,Fj,Fi,Fh,Fg,Fk,Fl]
   refine aV (i:=15) rfl (by kernel_rfl) (fun _ _ _ h=>h) (by rfl) ?_
   try simp only[Act.put,Fj,Fi,Fh,Fg,Fk,Fl]
   refine aV (i:=16) rfl (by kernel_rfl) (fun _ _ _ h=>h) (by rfl) ?_
   try simp only[Act.put,Fj,Fi,Fh,Fg,Fk,Fl]
   refine aV (i:=17) rfl (by kernel_rfl) (fun _ _ _ h=>h) (by rfl) ?_
   try simp only[Act.put,Fj,Fi,Fh,Fg,Fk,Fl]
   refine aV (i:=18) rfl (by kernel_rfl) (fun _ _ _ h=>h) (by rfl) ?_
   try simp only[Act.put,Fj,Fi,Fh,Fg,Fk,Fl]
   refine ai (i:=19) (v:=?vv12) rfl (by kernel_rfl) (fun _ _ _ h=>h) rfl ?hy12 ?rest12
   case hy12=>(intro wy;go_simp;try with_reducible rfl)
   try simp only[Act.put,Fj,Fi,Fh,Fg,Fk,Fl]
   refine ai (i:=20) (v:=?vv13) rfl (by kernel_rfl) (fun _ _ _ h=>h) rfl ?hy13 ?rest13
   case hy13=>(intro wy;go_simp;try with_reducible rfl)
   try simp only[Act.put,Fj,Fi,Fh,Fg,Fk,Fl]
   try simp only[Act.put,Fj,Fi,Fh,Fg,Fk,Fl]
   refine aH (by kernel_rfl) ?_ _
   simp only[aL]
   go_wp2_with fail
   go_ret
   refine⟨?_,HB⟩
   rw[←HR.out]
   rfl
  ·refine bJ (i:=11) (v:=?vvD1) rfl (by kernel_rfl) (fun _ _ _ h=>h) (by rfl) hS ?hyD1 ?restD1
   case hyD1 =>
    intro wy hy
    have q0:=af hy.1 0
    have q1:=af hy.1 1
    have q2:=af hy.1 2
    have q3:=af hy.1 3
    have e0:=af hy.2 0
    have e1:=af hy.2 1
    clear hy
    go_simp
    try with_reducible rfl
   try simp only[Act.put,Fj,Fi,Fh,Fg,Fk,Fl]
   refine ai (i:=12) (v:=?vv14) rfl (by kernel_rfl) (fun _ _ _ h=>h) rfl ?hy14 ?rest14
   case hy14=>(intro wy;go_simp;try with_reducible rfl)
   try simp only[Act.put,Fj,Fi,Fh,Fg,Fk,Fl]
   refine ai (i:=13) (v:=?vv15) rfl (by kernel_rfl) (fun _ _ _ h=>h) rfl ?hy15 ?rest15
   case hy15=>(intro wy;go_simp;try with_reducible rfl)
   try simp only[Act.put,Fj,Fi,Fh,Fg,Fk,Fl]
   refine bJ (i:=14) (v:=?vvD2) rfl (by kernel_rfl) (fun _ _ _ h=>h) (by rfl) hS ?hyD2 ?restD2
   case hyD2 =>
    intro wy hy
    have q0:=af hy.1 0
    have q1:=af hy.1 1
    have q2:=af hy.1 2
    have q3:=af hy.1 3
    have e0:=af hy.2 0
    have e1:=af hy.2 1
    clear hy
    go_simp
    try with_reducible rfl
   try simp only[Act.put,Fj,Fi,Fh,Fg,Fk,Fl]
   refine bJ (i:=15) (v:=?vvD3) rfl (by kernel_rfl) (fun _ _ _ h=>h) (by rfl) hS ?hyD3 ?restD3
   case hyD3 =>
    intro wy hy
    have q0:=af hy.1 0
    have q1:=af hy.1 1
    have q2:=af hy.1 2
    have q3:=af hy.1 3
    have e0:=af hy.2 0
    have e1:=af hy.2 1
    clear hy
    go_simp
    try with_reducible rfl
   try simp only[Act.put,Fj,Fi,Fh,Fg,Fk,Fl]
   refine bJ (i:=16) (v:=?vvD4) rfl (by kernel_rfl) (fun _ _ _ h=>h) (by rfl) hS ?hyD4 ?restD4
   case hyD4 =>
    intro wy hy
    have q0:=af hy.1 0
    have q1:=af hy.1 1
    have q2:=af hy.1 2
    have q3:=af hy.1 3
    have e0:=af hy.2 0
    have e1:=af hy.2 1
    clear hy
    go_simp
    try with_reducible rfl
   try simp only[Act.put,Fj,Fi,Fh,Fg,Fk,Fl]
   refine ff (i:=17) rfl (by kernel_rfl) (by rfl) (fun K hK=>?_)
   go_simp
   refine (lm _ _ _ _ w7 HD.out HM.out (Fo HFD.out (by omega)) (Fo nA (by omega))).mono ?_
   rintro e w8 ⟨rfl,hb8⟩
   have hS':=And.intro ((hb8.block _ (ah hS.1)).trans hS.1) ((hb8.block _ (ah hS.2)).trans hS.2)
   refine hK _ _ (fun _ _=>hS') ?_
   clear hK K
   try simp only[Act.put,Fj,Fi,Fh,Fg,Fk,Fl]
   replace HB:=HB.trans (hb8.mono HB.size)
   have HN':=Ff (HN.out.below hb8)
   have HD':=Ff (HD.out.below hb8)
   have HM':=Ff (HM.out.below hb8)
   clear hS HN HD HM
   have hS:=hS'
   have HN:=HN'
   have HD:=HD'
   have HM:=HM'
   clear hS' HN' HD' HM'
   clear hb8 hc2
   have hc3:=rL (d:Int) (4096:Nat)
   obtain⟨z3,hz3⟩:∃ z,z=dI (d:Int) (4096:Nat):=⟨_,rfl⟩
   rw[←hz3] at hc3 ⊢
   clear hz3
   obtain⟨b3,hb3⟩:∃ b,b=decide ((d:Int)≤4096):=⟨_,rfl⟩
   rw[show decide ((d:Int)≤((4096:Nat):Int))=b3 from hb3.symm] at hc3
   rw[←hb3] at HR
   clear hb3
   refine bJ (i:=18) (v:=?vvD5) rfl (by kernel_rfl) (fun _ _ _ h=>h) (by rfl) hS ?hyD5 ?restD5
   case hyD5 =>
    intro wy hy
    have q0:=af hy.1 0
    have q1:=af hy.1 1
    have q2:=af hy.1 2
    have q3:=af hy.1 3
    have e0:=af hy.2 0
    have e1:=af hy.2 1
    clear hy
    go_simp
    try with_reducible rfl
   try simp only[Act.put,Fj,Fi,Fh,Fg,Fk,Fl]
   refine ai (i:=19) (v:=?vv16) rfl (by kernel_rfl) (fun _ _ _ h=>h) rfl ?hy16 ?rest16
   case hy16=>(intro wy;go_simp;try with_reducible rfl)
   try simp only[Act.put,Fj,Fi,Fh,Fg,Fk,Fl]
   refine ai (i:=20) (v:=?vv17) rfl (by kernel_rfl) (fun _ _ _ h=>h) rfl ?hy17 ?rest17
   case hy17=>(intro wy;go_simp;try with_reducible rfl)
   try simp only[Act.put,Fj,Fi,Fh,Fg,Fk,Fl]
   try simp only[Act.put,Fj,Fi,Fh,Fg,Fk,Fl]
   refine aH (by kernel_rfl) ?_ _
   simp only[aL]
   go_wp2_with fail
   go_ret
   refine⟨?_,HB⟩
   rw[←HR.out]
   rfl
end Go.Proofs.YtbnkpcfjechfiaaGreatDoor
