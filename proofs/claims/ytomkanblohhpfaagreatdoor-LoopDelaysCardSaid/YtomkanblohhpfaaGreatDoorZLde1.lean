/- Lemmas of this claim. -/
import Derived.Test.YtomkanblohhpfaaGreatDoorZPM2
import Derived.Test.YtomkanblohhpfaaGreatDoorZWK1
set_option linter.all false
set_option maxRecDepth 100000
set_option maxHeartbeats 8000000
namespace Go.Proofs.YtomkanblohhpfaaGreatDoor
open Go.RowKit Dg
theorem modN (n many:Int) (h1:1≤many) (h2:many≤1000000000) (w:World):Calls Tryz.prog 28 #[.int .i64 n,.int .i64 many] w fun e w'=>e=.returned (.int .i64 (n % many))∧w'=w:=by
 have hd1:decide (many<1)=false:=by simp;omega
 have hz:(many == 0)=false:=by simp;omega
 have hne:many≠0:=by omega
 have ht:n.tmod many=n % many∨(n.tmod many<0∧n.tmod many+many=n % many∧0<n % many):=by
  have e:=Int.tmod_eq_emod (a:=n) (b:=many)
  have h3:=zK n hne
  have h4:=zB n (show 0<many by omega)
  have h5:(many.natAbs:Int)=many:=by omega
  by_cases hc:0≤n∨many ∣ n
  ·rw[if_pos hc] at e;left;omega
  ·have h6:n % many≠0:=fun h=>hc (Or.inr (Int.dvd_of_emod_eq_zero h))
   rw[if_neg hc,h5] at e;right;omega
 have hlo:-many<n.tmod many∧n.tmod many<many:=by
  have h3:=zK n hne
  have h4:=zB n (show 0<many by omega)
  omega
 have h3:=zK n hne
 have h4:=zB n (show 0<many by omega)
 go_enter Tryz.func28,Tryz.ntmps28
 go_wp2_with fail
 ·have h0:n.tmod many<0:=by assumption
  go_ret
  have h7:n.tmod many+many=n % many:=by omega
  exact⟨by rw[h7];rfl,by rfl⟩
 ·have h0:0≤n.tmod many:=by assumption
  go_ret
  have h7:n.tmod many=n % many:=by omega
  exact⟨by rw[h7];rfl,by rfl⟩
theorem kM (v:Value) (a b:List ByteArray) (k:Nat) (w:World) (hc:au a b=true) (h:k+a.length≤7) (hF:IsF w v a b) (hG:Gx w) :
  Calls Tryz.prog 30 #[v,.int .i64 k] w fun e w'=>∃ g1 o1 c1 g2 o2 c2,e=.returned (.tuple #[.agg #[.slice (some ⟨g1,o1,none⟩) (aq a k).length c1,.slice (some ⟨g2,o2,none⟩) b.length c2],.int .i64 0]) ∧
   IsS w' (.slice (some ⟨g1,o1,none⟩) (aq a k).length c1) (aq a k)∧IsS w' (.slice (some ⟨g2,o2,none⟩) b.length c2) b∧w.heap.size≤g1∧g1<w'.heap.size∧w.heap.size≤g2∧g2<w'.heap.size∧Below w.heap.size w w':=by
 refine (jB v a b k w hF hG).mono ?_
 rintro e w' ⟨u,rfl,hu,hb⟩
 rw[nX hc h] at hu ⊢
 obtain⟨p1,c1,p2,c2,rfl,h1,h2,o1,o2⟩:=hu.ex
 obtain⟨ob1,ob7,oa1,oa7,-⟩:=aB hc
 have h1':IsS w' (.slice p1 (aq a k).length c1) (aq a k):=h1
 have h2':IsS w' (.slice p2 b.length c2) b:=h2
 obtain⟨g1,q1,rfl,l1,-⟩:=h1'.get (i:=0) (by rw[bT];omega)
 obtain⟨g2,q2,rfl,l2,-⟩:=h2'.get (i:=0) (by omega)
 exact⟨g1,q1,c1,g2,q2,c2,rfl,h1,h2,o1 _ rfl,l1,o2 _ rfl,l2,hb⟩
theorem nW (v:Value) (a b:List ByteArray) (k:Nat) (w:World) (hc:au a b=true) (h:7<k+a.length) (hF:IsF w v a b) (hG:Gx w) :
  Calls Tryz.prog 30 #[v,.int .i64 k] w fun e w'=>∃ p1 c1 p2 c2 er,e=.returned (.tuple #[.agg #[.slice p1 0 c1,.slice p2 0 c2],.int .i64 er])∧(er == 0)=false∧Below w.heap.size w w':=by
 refine (jB v a b k w hF hG).mono ?_
 rintro e w' ⟨u,rfl,hu,hb⟩
 obtain⟨er,hne,e⟩:=mv (b:=b) hc h
 rw[e] at hu ⊢
 obtain⟨p1,c1,p2,c2,rfl,-⟩:=hu.ex
 exact⟨p1,c1,p2,c2,er,rfl,by simpa using hne,hb⟩
theorem sX:bt (⟨#[49]⟩:ByteArray).data.toList=true:=by decide +kernel
theorem mL (v vl:Value) (la lb:List ByteArray) (x:Bool) (w:World) (hc:au la lb=true) (hx:aD la lb ⟨#[49]⟩=x) (hF:IsF w v la lb) (hl:IsS w vl [⟨#[49]⟩]) (hG:Gx w) :
  Calls Tryz.prog 31 #[v,vl] w fun e w'=>∃ gb cb,e=.returned (.tuple #[.slice (some ⟨gb,0,none⟩) 1 cb,.int .i64 0])∧w'.cell? ⟨gb,0,none⟩=some (.bool x)∧gb<w'.heap.size∧Below w.heap.size w w':=by
 have hg:bU la lb [⟨#[49]⟩]=0:=by
  unfold bU
  rw[if_pos hc,if_neg (by decide),if_pos (by show (bt (⟨#[49]⟩:ByteArray).data.toList&&true)=true;rw[sX];rfl)]
 refine (rM v vl la lb [⟨#[49]⟩] w hF hl hG).mono ?_
 rintro e w' ⟨u,rfl,ho,hb⟩
 unfold gX at ho
 rw[if_pos hg,zG,zW,hx] at ho
 rw[hg]
 have ho':w'.ownsRow w.heap.size 4 1 u 1 [.bool x]:=ho
 have hlt:=World.ownsRow.lt ho'
 rcases id ho'.2 with ⟨-,h0⟩ | ⟨g,cap,cur,rfl,-,-⟩
 ·cases h0
 ·have h0:=ho'.cells (g:=g) rfl 0 (.bool x) rfl
  exact⟨g,cap,rfl,h0,(hlt g rfl).2,hb⟩
def vf (w:World) (B:Nat) (g:Nat) (la lb:List ByteArray):Prop:=∃ g1 o1 c1 g2 o2 c2,w.heap[g]?=some (.cells #[.slice (some ⟨g1,o1,none⟩) la.length c1,.slice (some ⟨g2,o2,none⟩) lb.length c2] 24 (0,0)) ∧
 IsS w (.slice (some ⟨g1,o1,none⟩) la.length c1) la∧IsS w (.slice (some ⟨g2,o2,none⟩) lb.length c2) lb∧B≤g
theorem gn {w:World}{B g g1 o1 c1 g2 o2 c2:Nat}{x y:Value}{la lb:List ByteArray} (hq:w.heap[g]?=some (.cells #[x,y] 24 (0,0))) (h1:IsS w (.slice (some ⟨g1,o1,none⟩) la.length c1) la) (h2:IsS w (.slice (some ⟨g2,o2,none⟩) lb.length c2) lb) (n1:g1≠g) (n2:g2≠g) (hB:B≤g) :
  vf ((w.setCell ⟨g,0,none⟩ (.slice (some ⟨g1,o1,none⟩) la.length c1)).setCell ⟨g,1,none⟩ (.slice (some ⟨g2,o2,none⟩) lb.length c2)) B g la lb:=by
 have e1:Value.ownBlock (.slice (some ⟨g1,o1,none⟩) la.length c1)≠some g:=fun e=>n1 (by simpa[Value.ownBlock] using e)
 have e2:Value.ownBlock (.slice (some ⟨g2,o2,none⟩) lb.length c2)≠some g:=fun e=>n2 (by simpa[Value.ownBlock] using e)
 exact⟨g1,o1,c1,g2,o2,c2,bd hq _ _,(h1.other e1 0 _).other e1 1 _,(h2.other e2 0 _).other e2 1 _,hB⟩
theorem n_ (v:Value) (a b:List ByteArray) (n:Int) (w:World) (hF:IsF w v a b) (hG:Gx w) :
  Calls Tryz.prog 6 #[v,.int .i64 n] w fun e w'=>e=.returned (.bool true)∧Below w.heap.size w w':=by
 obtain⟨p,c,q,d,rfl,hfa,hfb⟩:=id hF.ex
 go_enter Tryz.func6,Tryz.ntmps6
 go_upto_region 1 with fail
 have cc:=ar w (.slice p a.length c) (.slice q b.length d)
 have m1:=ac w (.cells #[.slice p a.length c,.slice q b.length d] 24)
 have zz:=size_alloc w (.cells #[.slice p a.length c,.slice q b.length d] 24)
 generalize w.alloc (.cells #[.slice p a.length c,.slice q b.length d] 24)=w1 at *
 have HF:=xo (hF.below m1)
 have HG:=xo (hG.below m1)
 have k0:=cc.1
 have k1:=cc.2
 have KL:w.heap.size<w1.heap.size:=by omega
 have HB:=xo m1
 clear hfa hfb cc zz m1 hF hG
 go_wp2_with fail
 refine (oR _ a b w1 HF.out HG.out).mono ?_
 rintro e w2 ⟨rfl,hb⟩
 have HF:=xo (HF.out.below hb)
 have HG:=xo (HG.out.below hb)
 have HB:=xo (HB.out.trans ((hb).mono HB.out.size))
 have k0:=aa hb KL k0
 have k1:=aa hb KL k1
 have KL:=xB KL ((hb).size)
 clear hb
 by_cases hc:au a b=true
 ·by_cases hh:aD a b ⟨#[49]⟩=true
  ·obtain⟨m,hm,-,hm7,hall,hlast⟩:=lF a b 7 0 (by have:=(aB hc).2.2.2.1;omega) (by omega) hh
   rw[show bC a b=((m:Int),0) from by unfold bC;rw[if_pos hc,if_pos hh,hm]]
   have HC:=xo (And.intro hc (And.intro hall hlast))
   have hm6:m≤6:=by have:=(aB hc).2.2.1;omega
   clear hc hh hall hlast hm
   have HM:=xo (modN n ((m:Int)+1) (by omega) (by omega))
   have hr:=zK n (show (m:Int)+1≠0 by omega)
   have hr2:=zB n (show 0<(m:Int)+1 by omega)
   obtain⟨k,hk⟩:∃ k:Nat,n % ((m:Int)+1)=k:=⟨(n % ((m:Int)+1)).toNat,by omega⟩
   rw[hk] at HM hr2
   have hkm:k≤m:=by omega
   have hin:=IntWalk.i64_in ((m:Int)+1) (by omega)
   clear hr hr2 hk
   have HD:=xo (fun wx (h:Below w2.heap.size w2 wx)=>kM _ a b k wx HC.out.1 (by omega) (HF.out.below h) (HG.out.below h))
   go_upto_region 4 with fail
   go_cut [6,7] from 21 to 29 (fun s6 s7 wx=>s6=.int .i64 0∧∃ g:Nat,s7=.pointer (some ⟨g,0,none⟩)∧vf wx w2.heap.size g (aq a k) b∧Below w2.heap.size w2 wx)
   case first =>
    have hBd:Below w2.heap.size w2 w2.drew:=(Below.refl _ _).drew
    refine wp_mono (aG (Q:=bF _) (fun wx:World=>Below w2.heap.size w2 wx) (fun j=>j == 10) (by kernel_rfl) ?_) (fun _ _ _ h=>cf h)
    generalize w2.drew=wd at *
    refine aC (i:=0) (v:=?vv0) rfl (by kernel_rfl) (fun _ _ _ h=>h) rfl hBd ?hy0 ?rest0
    case hy0 =>
     intro wy hy
     have k0:=aa hy KL k0
     have k1:=aa hy KL k1
     clear hy
     go_simp
     try with_reducible rfl
    try simp only[Act.put,xv,xu,xt,xr,xw,xx]
    refine ai (i:=1) (v:=?vvb1) rfl (by kernel_rfl) (fun _ _ _ h=>h) rfl ?hyb1 ?restb1
    case hyb1=>(intro wy;go_simp;try with_reducible rfl)
    try simp only[Act.put,xv,xu,xt,xr,xw,xx]
    refine ai (i:=2) (v:=?vvb2) rfl (by kernel_rfl) (fun _ _ _ h=>h) rfl ?hyb2 ?restb2
    case hyb2=>(intro wy;go_simp;try with_reducible rfl)
    try simp only[Act.put,xv,xu,xt,xr,xw,xx]
    refine ai (i:=3) (v:=?vvb3) rfl (by kernel_rfl) (fun _ _ _ h=>h) rfl ?hyb3 ?restb3
    case hyb3=>(intro wy;go_simp;try with_reducible rfl)
    try simp only[Act.put,xv,xu,xt,xr,xw,xx]
    refine gG (i:=4) (i':=9) rfl rfl (by kernel_rfl) rfl rfl (fun K hK=>?_) (fun K hK=>?_)
    ·go_simp
     refine (HM.out _).mono ?_
     rintro e wm ⟨rfl,rfl⟩
     refine hK _ _ (fun _ h=>h) ?_
     clear hK K
     try simp only[Act.put,xv,xu,xt,xr,xw,xx]
     refine gG (i:=5) (i':=9) rfl rfl (by kernel_rfl) rfl rfl (fun K hK=>?_) (fun K hK=>?_)
     ·have hBz:=hBd
      go_simp
      refine (HD.out _ hBz).mono ?_
      rintro e w5 ⟨g1,o1,c1,g2,o2,c2,rfl,h1,h2,l1,u1,l2,u2,hb5⟩
      have hB5:=Below.trans hBz (hb5.mono (Below.size hBz))
      refine hK _ _ (fun _ _=>hB5) ?_
      clear hK K
      try simp only[Act.put,xv,xu,xt,xr,xw,xx]
      refine ai (i:=6) (v:=?vva6) rfl (by kernel_rfl) (fun _ _ _ h=>h) rfl ?hya6 ?resta6
      case hya6=>(intro wy;go_simp;try with_reducible rfl)
      try simp only[Act.put,xv,xu,xt,xr,xw,xx]
      refine ai (i:=7) (v:=?vva7) rfl (by kernel_rfl) (fun _ _ _ h=>h) rfl ?hya7 ?resta7
      case hya7=>(intro wy;go_simp;try with_reducible rfl)
      try simp only[Act.put,xv,xu,xt,xr,xw,xx]
      refine ai (i:=8) (v:=?vva8) rfl (by kernel_rfl) (fun _ _ _ h=>h) rfl ?hya8 ?resta8
      case hya8=>(intro wy;go_simp;try with_reducible rfl)
      try simp only[Act.put,xv,xu,xt,xr,xw,xx]
      refine ay (i:=9) rfl (by kernel_rfl) rfl (fun K hK=>?_)
      replace hBz:=hB5
      go_simp
      have q:=heap_alloc_new w5 (.cells #[.slice none 0 0,.slice none 0 0] 24)
      have m6:=ac w5 (.cells #[.slice none 0 0,.slice none 0 0] 24)
      have z6:=size_alloc w5 (.cells #[.slice none 0 0,.slice none 0 0] 24)
      have hB6:=Below.trans hBz (m6.mono (Below.size hBz))
      have hgg:=Below.size hBz
      refine hK _ _ (fun _ _=>hB6) ?_
      clear hK K
      try simp only[Act.put,xv,xu,xt,xr,xw,xx]
      generalize World.alloc w5 (.cells #[.slice none 0 0,.slice none 0 0] 24)=w6 at *
      obtain⟨gg,hge⟩:∃ g,g=(w5).heap.size:=⟨_,rfl⟩
      rw[←hge] at q z6 hgg ⊢
      have n1:g1≠gg:=by omega
      have n2:g2≠gg:=by omega
      clear hge
      replace h1:=h1.below m6
      replace h2:=h2.below m6
      replace hBz:=hB6
      try clear z6
      have k0x:=af q 0
      have k1x:=af q 1
      have f0x:=ak q 0
      have f1x:=ak q 1
      have HFA:=xo (gn q h1 h2 n1 n2 hgg)
      have hB7:=xo ((hBz.setCell (p:=⟨gg,0,none⟩) hgg (.slice (some ⟨g1,o1,none⟩) (aq a k).length c1)).setCell (p:=⟨gg,1,none⟩) hgg (.slice (some ⟨g2,o2,none⟩) b.length c2))
      clear q h1 h2 n1 n2 hBz
      refine ay (i:=10) rfl (by kernel_rfl) rfl (fun K hK=>?_)
      go_simp
      refine hK _ _ (fun h=>by cases h) ?_
      clear hK K
      try simp only[Act.put,xv,xu,xt,xr,xw,xx]
      refine ai (i:=11) (v:=?vva11) rfl (by kernel_rfl) (fun _ _ _ h=>h) rfl ?hya11 ?resta11
      case hya11=>(intro wy;go_simp;try with_reducible rfl)
      try simp only[Act.put,xv,xu,xt,xr,xw,xx]
      refine a6 (by kernel_rfl) ?_ _
      simp only[bF]
      try go_wp2
      go_meet
      exact⟨rfl,gg,rfl,HFA.out,hB7.out⟩
     ·have hBz:=hBd
      go_simp
      have q:=heap_alloc_new wm (.cells #[.slice none 0 0,.slice none 0 0] 24)
      have m6:=ac wm (.cells #[.slice none 0 0,.slice none 0 0] 24)
      have z6:=size_alloc wm (.cells #[.slice none 0 0,.slice none 0 0] 24)
      have hB6:=Below.trans hBz (m6.mono (Below.size hBz))
      have hgg:=Below.size hBz
      refine hK _ _ (fun _ _=>hB6) ?_
      clear hK K
      try simp only[Act.put,xv,xu,xt,xr,xw,xx]
      generalize World.alloc wm (.cells #[.slice none 0 0,.slice none 0 0] 24)=w6 at *
      obtain⟨gg,hge⟩:∃ g,g=(wm).heap.size:=⟨_,rfl⟩
      rw[←hge] at q z6 hgg ⊢
      have HZ6:=xo z6
      clear hge z6
      replace hBz:=hB6
      refine ay (i:=5) rfl (by kernel_rfl) rfl (fun K hK=>?_)
      go_simp
      refine (HD.out _ hBz).mono ?_
      rintro e w5 ⟨g1,o1,c1,g2,o2,c2,rfl,h1,h2,l1,u1,l2,u2,hb5⟩
      have hB5:=Below.trans hBz (hb5.mono (Below.size hBz))
      refine hK _ _ (fun _ _=>hB5) ?_
      clear hK K
      try simp only[Act.put,xv,xu,xt,xr,xw,xx]
      refine ai (i:=6) (v:=?vvc6) rfl (by kernel_rfl) (fun _ _ _ h=>h) rfl ?hyc6 ?restc6
      case hyc6=>(intro wy;go_simp;try with_reducible rfl)
      try simp only[Act.put,xv,xu,xt,xr,xw,xx]
      refine ai (i:=7) (v:=?vvc7) rfl (by kernel_rfl) (fun _ _ _ h=>h) rfl ?hyc7 ?restc7
      case hyc7=>(intro wy;go_simp;try with_reducible rfl)
      try simp only[Act.put,xv,xu,xt,xr,xw,xx]
      refine ai (i:=8) (v:=?vvc8) rfl (by kernel_rfl) (fun _ _ _ h=>h) rfl ?hyc8 ?restc8
      case hyc8=>(intro wy;go_simp;try with_reducible rfl)
      try simp only[Act.put,xv,xu,xt,xr,xw,xx]
      have z6:=HZ6.out
      have n1:g1≠gg:=by omega
      have n2:g2≠gg:=by omega
      replace q:=(hb5.block gg (by omega)).trans q
      replace hBz:=hB5
      try clear z6
      have k0x:=af q 0
      have k1x:=af q 1
      have f0x:=ak q 0
      have f1x:=ak q 1
      have HFA:=xo (gn q h1 h2 n1 n2 hgg)
      have hB7:=xo ((hBz.setCell (p:=⟨gg,0,none⟩) hgg (.slice (some ⟨g1,o1,none⟩) (aq a k).length c1)).setCell (p:=⟨gg,1,none⟩) hgg (.slice (some ⟨g2,o2,none⟩) b.length c2))
      clear q h1 h2 n1 n2 hBz
      refine ay (i:=10) rfl (by kernel_rfl) rfl (fun K hK=>?_)
      go_simp
      refine hK _ _ (fun h=>by cases h) ?_
      clear hK K
      try simp only[Act.put,xv,xu,xt,xr,xw,xx]
      refine ai (i:=11) (v:=?vvc11) rfl (by kernel_rfl) (fun _ _ _ h=>h) rfl ?hyc11 ?restc11
      case hyc11=>(intro wy;go_simp;try with_reducible rfl)
      try simp only[Act.put,xv,xu,xt,xr,xw,xx]
      refine a6 (by kernel_rfl) ?_ _
      simp only[bF]
      try go_wp2
      go_meet
      exact⟨rfl,gg,rfl,HFA.out,hB7.out⟩
    ·have hBz:=hBd
     go_simp
     have q:=heap_alloc_new wd (.cells #[.slice none 0 0,.slice none 0 0] 24)
     have m6:=ac wd (.cells #[.slice none 0 0,.slice none 0 0] 24)
     have z6:=size_alloc wd (.cells #[.slice none 0 0,.slice none 0 0] 24)
     have hB6:=Below.trans hBz (m6.mono (Below.size hBz))
     have hgg:=Below.size hBz
     refine hK _ _ (fun _ _=>hB6) ?_
     clear hK K
     try simp only[Act.put,xv,xu,xt,xr,xw,xx]
     generalize World.alloc wd (.cells #[.slice none 0 0,.slice none 0 0] 24)=w6 at *
     obtain⟨gg,hge⟩:∃ g,g=(wd).heap.size:=⟨_,rfl⟩
     rw[←hge] at q z6 hgg ⊢
     have HZ6:=xo z6
     clear hge z6
     replace hBz:=hB6
     refine ay (i:=4) rfl (by kernel_rfl) rfl (fun K hK=>?_)
     go_simp
     refine (HM.out _).mono ?_
     rintro e wm ⟨rfl,rfl⟩
     refine hK _ _ (fun _ h=>h) ?_
     clear hK K
     try simp only[Act.put,xv,xu,xt,xr,xw,xx]
     refine ay (i:=5) rfl (by kernel_rfl) rfl (fun K hK=>?_)
     go_simp
     refine (HD.out _ hBz).mono ?_
     rintro e w5 ⟨g1,o1,c1,g2,o2,c2,rfl,h1,h2,l1,u1,l2,u2,hb5⟩
     have hB5:=Below.trans hBz (hb5.mono (Below.size hBz))
     refine hK _ _ (fun _ _=>hB5) ?_
     clear hK K
     try simp only[Act.put,xv,xu,xt,xr,xw,xx]
     refine ai (i:=6) (v:=?vvd6) rfl (by kernel_rfl) (fun _ _ _ h=>h) rfl ?hyd6 ?restd6
     case hyd6=>(intro wy;go_simp;try with_reducible rfl)
     try simp only[Act.put,xv,xu,xt,xr,xw,xx]
     refine ai (i:=7) (v:=?vvd7) rfl (by kernel_rfl) (fun _ _ _ h=>h) rfl ?hyd7 ?restd7
     case hyd7=>(intro wy;go_simp;try with_reducible rfl)
     try simp only[Act.put,xv,xu,xt,xr,xw,xx]
     refine ai (i:=8) (v:=?vvd8) rfl (by kernel_rfl) (fun _ _ _ h=>h) rfl ?hyd8 ?restd8
     case hyd8=>(intro wy;go_simp;try with_reducible rfl)
     try simp only[Act.put,xv,xu,xt,xr,xw,xx]
     have z6:=HZ6.out
     have n1:g1≠gg:=by omega
     have n2:g2≠gg:=by omega
     replace q:=(hb5.block gg (by omega)).trans q
     replace hBz:=hB5
     try clear z6
     have k0x:=af q 0
     have k1x:=af q 1
     have f0x:=ak q 0
     have f1x:=ak q 1
     have HFA:=xo (gn q h1 h2 n1 n2 hgg)
     have hB7:=xo ((hBz.setCell (p:=⟨gg,0,none⟩) hgg (.slice (some ⟨g1,o1,none⟩) (aq a k).length c1)).setCell (p:=⟨gg,1,none⟩) hgg (.slice (some ⟨g2,o2,none⟩) b.length c2))
     clear q h1 h2 n1 n2 hBz
     refine ay (i:=10) rfl (by kernel_rfl) rfl (fun K hK=>?_)
     go_simp
     refine hK _ _ (fun h=>by cases h) ?_
     clear hK K
     try simp only[Act.put,xv,xu,xt,xr,xw,xx]
     refine ai (i:=11) (v:=?vvd11) rfl (by kernel_rfl) (fun _ _ _ h=>h) rfl ?hyd11 ?restd11
     case hyd11=>(intro wy;go_simp;try with_reducible rfl)
     try simp only[Act.put,xv,xu,xt,xr,xw,xx]
     refine a6 (by kernel_rfl) ?_ _
     simp only[bF]
     try go_wp2
     go_meet
     exact⟨rfl,gg,rfl,HFA.out,hB7.out⟩
   case rest =>
    obtain⟨rfl,g,rfl,⟨g1,o1,c1,g2,o2,c2,hq,h1,h2,hgB⟩,hb⟩:=hcut
    rename World=>w3
    have hgl:g<w3.heap.size:=(xC.1 hq).1
    have HG2:=HG
    have KL2:=xo KL
    have BB:=xo hb
    have HC2:=xo (And.intro (HC.out.2.1 k (by omega) hkm) (eA (i:=k) HC.out.1 (by omega)))
    have HF:=xo (HF.out.below hb)
    have HG:=xo (HG.out.below hb)
    have HB:=xo (HB.out.trans ((hb).mono HB.out.size))
    have k0:=aa hb KL k0
    have k1:=aa hb KL k1
    have KL:=xB KL ((hb).size)
    clear hb
    clear HM HD hin hkm
    have x0:=af hq 0
    have x1:=af hq 1
    have hm:=ac w3 (.cells #[.string ⟨#[49]⟩] 31)
    have HU:=xo (mL _ _ (aq a k) b true _ HC2.out.2 HC2.out.1 ⟨⟨_,_,_,_,rfl,h1.below hm,h2.below hm⟩⟩ (aP w3 ⟨#[49]⟩) (HG.out.below hm))
    have HM:=xo hm
    have HQ:=xo hq
    clear hm h1 h2 hq HC2
    go_wp2_with fail
    refine HU.out.mono ?_
    rintro e w4 ⟨gb,cb,rfl,hcell,hgb,hb⟩
    have hb:=HM.out.trans (hb.mono HM.out.size)
    have hq:=(hb.block g hgl).trans HQ.out
    replace hgl:=xB hgl hb.size
    replace BB:=xo (BB.out.trans (hb.mono BB.out.size))
    have HF:=xo (HF.out.below hb)
    have HG:=xo (HG.out.below hb)
    have HB:=xo (HB.out.trans ((hb).mono HB.out.size))
    have k0:=aa hb KL k0
    have k1:=aa hb KL k1
    have KL:=xB KL ((hb).size)
    clear hb
    clear HU HM HQ x0 x1
    have hin:=IntWalk.i64_in ((m:Int)+1) (by omega)
    have x0:=af hq 0
    have x1:=af hq 1
    have f0:=ak hq 0
    have f1:=ak hq 1
    by_cases hlong:m+a.length≤6
    ·have HD:=xo (kM _ a b (m+1) w4 HC.out.1 (by omega) HF.out HG.out)
     rw[show (((m+1:Nat):Int))=(m:Int)+1 from by omega] at HD
     have HC2:=xo (And.intro (HC.out.2.2 hlong) (eA (i:=m+1) HC.out.1 (by omega)))
     have HQ:=xo hq
     clear hq hlong
     go_wp2_with fail
     refine HD.out.mono ?_
     rintro e w5 ⟨g3,o3,c3,g4,o4,c4,rfl,h3,h4,l3,u3,l4,u4,hb⟩
     have hq:=(hb.block g hgl).trans HQ.out
     have HFA:=xo (gn (B:=0) hq h3 h4 (by omega) (by omega) (xJ _))
     clear x0 x1 f0 f1
     have x0:=af hq 0
     have x1:=af hq 1
     have f0:=ak hq 0
     have f1:=ak hq 1
     have hgw:w.heap.size≤g:=by have:=KL2.out;omega
     have HB:=xo (((HB.out.trans (hb.mono HB.out.size)).setCell (p:=⟨g,0,none⟩) hgw (.slice (some ⟨g3,o3,none⟩) (aq a (m+1)).length c3)).setCell (p:=⟨g,1,none⟩) hgw (.slice (some ⟨g4,o4,none⟩) (b).length c4))
     have HG:=xo (HG2.out.below (((BB.out.trans (hb.mono BB.out.size)).setCell (p:=⟨g,0,none⟩) hgB (.slice (some ⟨g3,o3,none⟩) (aq a (m+1)).length c3)).setCell (p:=⟨g,1,none⟩) hgB (.slice (some ⟨g4,o4,none⟩) (b).length c4)))
     clear hb hq BB HG2 k0 k1
     go_upto_region 11 with fail
     generalize (w5.setCell ⟨g,0,none⟩ (.slice (some ⟨g3,o3,none⟩) (aq a (m+1)).length c3)).setCell ⟨g,1,none⟩ (.slice (some ⟨g4,o4,none⟩) (b).length c4)=w6 at *
     clear x0 x1 f0 f1
     obtain⟨g5,o5,c5,g6,o6,c6,hq,h1,h2,-⟩:=HFA.out
     have x0:=af hq 0
     have x1:=af hq 1
     have hm:=ac w6 (.cells #[.string ⟨#[49]⟩] 31)
     have HU:=xo (mL _ _ (aq a (m+1)) b false _ HC2.out.2 HC2.out.1 ⟨⟨_,_,_,_,rfl,h1.below hm,h2.below hm⟩⟩ (aP w6 ⟨#[49]⟩) (HG.out.below hm))
     have HM:=xo hm
     clear hm h1 h2 hq HC2 HFA hcell
     go_wp2_with fail
     refine HU.out.mono ?_
     rintro e w7 ⟨gc,cc,rfl,hcell,hgc,hb⟩
     have hb:=HM.out.trans (hb.mono HM.out.size)
     have HG:=xo (HG.out.below hb)
     have HB:=xo (HB.out.trans (hb.mono HB.out.size))
     clear HU HM x0 x1 hb
     go_wp2_with fail
     refine (kr _ HG.out).mono ?_
     rintro e wz ⟨rfl,hz⟩
     have HB:=HB.out.trans (hz.mono HB.out.size)
     clear hz
     go_wp2
     go_ret
     exact⟨rfl,HB⟩
    ·have HD:=xo (nW _ a b (m+1) w4 HC.out.1 (by omega) HF.out HG.out)
     rw[show (((m+1:Nat):Int))=(m:Int)+1 from by omega] at HD
     clear hlong
     go_wp2_with fail
     refine HD.out.mono ?_
     rintro e w5 ⟨p1,c1,p2,c2,er,rfl,hne,hb⟩
     have hq:=(hb.block g hgl).trans hq
     clear x0 x1 f0 f1
     have x0:=af hq 0
     have x1:=af hq 1
     have f0:=ak hq 0
     have f1:=ak hq 1
     have hgw:w.heap.size≤g:=by have:=KL2.out;omega
     have HB:=xo (((HB.out.trans (hb.mono HB.out.size)).setCell (p:=⟨g,0,none⟩) hgw (.slice p1 0 c1)).setCell (p:=⟨g,1,none⟩) hgw (.slice p2 0 c2))
     have HG:=xo (HG2.out.below (((BB.out.trans (hb.mono BB.out.size)).setCell (p:=⟨g,0,none⟩) hgB (.slice p1 0 c1)).setCell (p:=⟨g,1,none⟩) hgB (.slice p2 0 c2)))
     clear hb hq hcell BB HG2 k0 k1
     go_upto_region 11 with fail
     generalize (w5.setCell ⟨g,0,none⟩ (.slice p1 0 c1)).setCell ⟨g,1,none⟩ (.slice p2 0 c2)=w6 at *
     clear x0 x1 f0 f1
     go_wp2_with fail
     refine (kr _ HG.out).mono ?_
     rintro e wz ⟨rfl,hz⟩
     have HB:=HB.out.trans (hz.mono HB.out.size)
     clear hz
     go_wp2
     go_ret
     exact⟨rfl,HB⟩
  ·rw[show bC a b=(0,31) from by unfold bC;rw[if_pos hc,if_neg hh]]
   clear hc hh
   go_wp2_with fail
   refine (kr _ HG.out).mono ?_
   rintro e wz ⟨rfl,hz⟩
   have HB:=HB.out.trans (hz.mono HB.out.size)
   clear hz
   go_wp2
   go_ret
   exact⟨rfl,HB⟩
 ·rw[show bC a b=(0,30) from by unfold bC;rw[if_neg hc]]
  clear hc
  go_wp2_with fail
  refine (kr _ HG.out).mono ?_
  rintro e wz ⟨rfl,hz⟩
  have HB:=HB.out.trans (hz.mono HB.out.size)
  clear hz
  go_wp2
  go_ret
  exact⟨rfl,HB⟩
theorem wE (w:World):FnT 122 #[] id w:=by
 refine⟨aH Tryz.func122 rfl (by kernel_rfl),fun x w' hb=>?_⟩
 show Calls _ _ #[_] _ _
 go_enter Tryz.func122,Tryz.ntmps122
 go_wp2
 go_ret
 exact⟨rfl,Below.refl _ _⟩
theorem wF (k:ByteArray) (g:Nat) (w:World) (hc:w.cell? ⟨g,4,none⟩=some (.string k)) (hg:g<w.heap.size) (hG:Gw w) :
  FnT 121 #[.pointer (some ⟨g,0,none⟩)] (fun a=>bX a k) w:=by
 refine⟨aH Tryz.func121 rfl (by kernel_rfl),fun x w' hb=>?_⟩
 have c0:=aa hb hg hc
 have HG:=xo (hG.below hb)
 show Calls _ _ #[_,_] _ _
 go_enter Tryz.func121,Tryz.ntmps121
 go_wp2_with fail
 refine (cW _ _ w' HG.out).mono ?_
 rintro e w1 ⟨rfl,hb1⟩
 go_wp2
 go_ret
 exact⟨rfl,hb1⟩
def gF (fa fb:List ByteArray) (k:ByteArray):Except Int (List ByteArray×List ByteArray):=if bt k.data.toList=true then .ok (fa.map (fun a=>bX a k),fb) else .error 2
theorem bj.lowerS {w:World}{base base':Nat}{v:Value}{l:List ByteArray} (h:bj w base v l) (hb:base'≤base):bj w base' v l:=by
 obtain⟨hlen,h⟩:=h
 refine⟨hlen,?_⟩
 rcases h with h | ⟨g,cap,cur,rfl,hg,r⟩
 ·exact Or.inl h
 ·exact Or.inr ⟨g,cap,cur,rfl,ye hb hg,r⟩
theorem m_ (v:Value) (fa fb ga gb:List ByteArray) (k:ByteArray) (n:Int) (w:World) (hP:fB w v fa fb ga gb k n) (h0:0<fa.length) (h2:fa.length<1000) (h3:fb.length<1000) (hG:Gx w) :
  Calls Tryz.prog 77 #[v] w (eH (gF fa fb k) w):=by
 obtain⟨p,c,q,d,p',c',q',d',rfl,hfa,hfb,-,-⟩:=id hP.ex
 obtain⟨ba,oa,rfl,hal,-⟩:=hfa.get (i:=0) h0
 go_enter Tryz.func77,Tryz.ntmps77
 go_upto_region 1 with fail
 have m1:=ac w (.cells #[.slice (some ⟨ba,oa,none⟩) fa.length c,.slice q fb.length d,.slice p' ga.length c',.slice q' gb.length d',.string k,.int .i64 n] 91)
 have z1:=size_alloc w (.cells #[.slice (some ⟨ba,oa,none⟩) fa.length c,.slice q fb.length d,.slice p' ga.length c',.slice q' gb.length d',.string k,.int .i64 n] 91)
 have a0:=ap w #[.slice (some ⟨ba,oa,none⟩) fa.length c,.slice q fb.length d,.slice p' ga.length c',.slice q' gb.length d',.string k,.int .i64 n] 91 0 _ rfl
 have a1:=ap w #[.slice (some ⟨ba,oa,none⟩) fa.length c,.slice q fb.length d,.slice p' ga.length c',.slice q' gb.length d',.string k,.int .i64 n] 91 1 _ rfl
 have a4:=ap w #[.slice (some ⟨ba,oa,none⟩) fa.length c,.slice q fb.length d,.slice p' ga.length c',.slice q' gb.length d',.string k,.int .i64 n] 91 4 _ rfl
 generalize w.alloc (.cells #[.slice (some ⟨ba,oa,none⟩) fa.length c,.slice q fb.length d,.slice p' ga.length c',.slice q' gb.length d',.string k,.int .i64 n] 91)=w1 at *
 have q2:(w1.alloc (.cells #[.slice none 0 0,.slice none 0 0] 24)).heap[w1.heap.size]?=some (.cells #[.slice none 0 0,.slice none 0 0] 24 (0,0)):=heap_alloc_new w1 _
 have m2:=ac w1 (.cells #[.slice none 0 0,.slice none 0 0] 24)
 have z2:=size_alloc w1 (.cells #[.slice none 0 0,.slice none 0 0] 24)
 have hlt:w.heap.size<w1.heap.size:=by omega
 have b0:=aa m2 hlt a0
 have b1:=aa m2 hlt a1
 have b4:=aa m2 hlt a4
 generalize w1.alloc (.cells #[.slice none 0 0,.slice none 0 0] 24)=w2 at *
 rw[z1] at q2
 have M2:=xo (m1.trans (m2.mono m1.size))
 have HZ2:=xo (show w.heap.size+2=w2.heap.size by omega)
 have hl2:w.heap.size<w2.heap.size:=by omega
 have HQ2:=xo q2
 have HA:=xo (hfa.below M2.out)
 have HBB:=xo (hfb.below M2.out)
 have HG:=xo (hG.below M2.out)
 clear hG m1 z1 a0 a1 a4 m2 z2 hfa hfb hP hlt q2 hal
 go_wp2_with fail
 refine (jK k w2 HG.out).mono ?_
 rintro e w3 ⟨ok,rfl,hok,hb3⟩
 have hz3:=hb3.size
 have HQ3:=xo ((hb3.block (w.heap.size+1) (by have:=HZ2.out;omega)).trans HQ2.out)
 have HZ3:=xo (show w.heap.size+2≤w3.heap.size by have:=HZ2.out;omega)
 have HG:=xo (HG.out.below hb3)
 have HA:=xo (HA.out.below hb3)
 have HBB:=xo (HBB.out.below hb3)
 have M3:=xo (M2.out.trans (hb3.mono M2.out.size))
 have b0:=aa hb3 hl2 b0
 have b1:=aa hb3 hl2 b1
 have b4:=aa hb3 hl2 b4
 replace hl2:=xB hl2 hz3
 clear hb3 hz3 HQ2 HZ2
 cases ok
 ·have HD:=xo (show gF fa fb k=.error 2 by unfold gF;rw[if_neg (by rw[hok.out];decide)])
  clear hok
  go_wp2
  refine⟨rfl,M3.out,?_⟩
  rw[HD.out];rfl
 ·have HD:=xo (show gF fa fb k=.ok (fa.map (fun a=>bX a k),fb) by unfold gF;rw[if_pos hok.out])
  clear hok
  go_upto_region 3 with fail
  have hbd:Below w3.heap.size w3 w3.drew:=(Below.refl _ _).drew
  refine aj (fun w'=>∃ x:Off (w.heap.size+1) w3,w'=x.w) (fun j=>j == 4||j == 8||j == 10) (by kernel_rfl) (by kernel_rfl) (Off.below hbd) ?_
  have c0:=fun x:Off (w.heap.size+1) w3=>x.cell hl2 (by omega) b0
  have c1:=fun x:Off (w.heap.size+1) w3=>x.cell hl2 (by omega) b1
  have HFn:=xo ((wF k w.heap.size w3 b4 hl2 HG.out.g).below hbd)
  clear b0 b1 b4
  generalize w3.drew=wd at *
  have HAd:=HA.out.below hbd
  have HBd:=xo (HBB.out.below hbd)
  refine ae 4 0 _ _ _ (by kernel_rfl) ?_
  simp only[xA,xE,xz,xD]
  repeat (go_big_quiet_step (fail))
  refine wpQuiet_nil ?_
  refine ag rfl rfl (fun K hK=>?_)
  go_simp
  refine (jP _ fa _ _ _ wd HAd (by omega) HFn.out).mono ?_
  rintro e w4 ⟨u1,rfl,hu1,hb4⟩
  obtain⟨L1,hL1⟩:∃ L,L=fa.map (fun a=>bX a k):=⟨_,rfl⟩
  rw[←hL1] at hu1 HD
  clear hL1
  have hB4:=hbd.trans (hb4.mono hbd.size)
  refine hK _ _ (Off.below hB4) ?_
  clear hK K
  try simp only[Act.put,xv,xu,xt,xr,xw,xx]
  have HB4:=xo (HBB.out.below hB4)
  have hu1b:bj w4 w3.heap.size u1 L1:=hu1.lowerS hbd.size
  clear HAd HBd hb4 hbd hu1
  refine ae 3 5 _ _ _ (by kernel_rfl) ?_
  simp only[xA,xE,xz,xD]
  repeat (go_big_quiet_step (fail))
  refine wpQuiet_nil ?_
  refine ag rfl rfl (fun K hK=>?_)
  go_simp
  refine (jP _ fb _ _ _ w4 HB4.out (by omega) (wE w4)).mono ?_
  rintro e w6 ⟨u2,rfl,hu2,hb6⟩
  rw[List.map_id] at hu2
  have hB6:=hB4.trans (hb6.mono hB4.size)
  refine hK _ _ (Off.below hB6) ?_
  clear hK K
  try simp only[Act.put,xv,xu,xt,xr,xw,xx]
  have hk1:bj w6 w3.heap.size u1 L1:=hu1b.below hb6
  have hs2:=HZ3.out
  have hs4:=hB4.size
  obtain⟨p1,c1',rfl,-⟩:=id hk1.isS.form
  obtain⟨p2,c2',rfl,-⟩:=id hu2.isS.form
  have hn1:Value.ownBlock (.slice p1 L1.length c1')≠some (w.heap.size+1):=fun e=>by have:=(World.ownsRow.lt hk1 _ e).1;omega
  have hn2:Value.ownBlock (.slice p2 fb.length c2')≠some (w.heap.size+1):=fun e=>by have:=(World.ownsRow.lt hu2 _ e).1;omega
  have O1:=xo (show ∀ g,Value.ownBlock (.slice p1 L1.length c1')=some g→w.heap.size≤g from fun g e=>by have:=(World.ownsRow.lt hk1 _ e).1;omega)
  have O2:=xo (show ∀ g,Value.ownBlock (.slice p2 fb.length c2')=some g→w.heap.size≤g from fun g e=>by have:=(World.ownsRow.lt hu2 _ e).1;omega)
  have q7:=(hB6.block (w.heap.size+1) (by omega)).trans HQ3.out
  have k0:=af q7 0
  have k1:=af q7 1
  have f0:=ak q7 0
  have f1:=ak q7 1
  have R1:=xo ((hk1.isS.other hn1 0 (.slice p1 L1.length c1')).other hn1 1 (.slice p2 fb.length c2'))
  have R2:=xo ((hu2.isS.other hn2 0 (.slice p1 L1.length c1')).other hn2 1 (.slice p2 fb.length c2'))
  have M7:=xo (((M3.out.trans (hB6.mono M3.out.size)).setCell (p:=⟨w.heap.size+1,0,none⟩) (xQ _) (.slice p1 L1.length c1')).setCell (p:=⟨w.heap.size+1,1,none⟩) (xQ _) (.slice p2 fb.length c2'))
  have hOff:=Off.set (g:=w.heap.size+1) (Off.set (g:=w.heap.size+1) (Off.below hB6) 0 (.slice p1 L1.length c1')) 1 (.slice p2 fb.length c2')
  have g0:=bd q7 (.slice p1 L1.length c1') (.slice p2 fb.length c2')
  clear hn1 hn2 hk1 hu2 q7 hB6 hb6 hu1b hB4 hs2 hs4
  refine ae 1 9 _ _ _ (by kernel_rfl) ?_
  simp only[xA,xE,xz,xD]
  repeat (go_big_quiet_step (fail))
  refine wpQuiet_nil ?_
  refine ag rfl rfl (fun K hK=>?_)
  go_simp
  refine hK undef _ hOff ?_
  clear hK K
  try simp only[Act.put,xv,xu,xt,xr,xw,xx]
  refine aw ?_
  have x0:=af g0 0
  have x1:=af g0 1
  go_wp2_with fail
  refine bodyPost_ret (v:=.agg #[.slice p1 L1.length c1',.slice p2 fb.length c2']) (by simp at x0 x1;simp[results,Tryz.results77,go_sem,x0,x1]) rfl ⟨M7.out,?_⟩
  rw[HD.out]
  exact⟨_,rfl,⟨p1,c1',p2,c2',rfl,R1.out,R2.out,O1.out,O2.out⟩⟩
def f_ (a b:List ByteArray) (k:ByteArray):(List ByteArray×List ByteArray)×Int:=aR a b a b (gF a b k)
theorem lR (w:World) (a b:List ByteArray) (k:ByteArray) (v:Value) (hP:fB w v a b a b k 0) (hG:Gx w):Calls Tryz.prog 53 #[.func (.func 77) #[] #[],v] w (cS (f_ a b k) w):=by
 refine ij 77 v a b a b k 0 _ w hP ⟨aH Tryz.func77 rfl (by kernel_rfl),fun v' w' hw' hP' hc hc2=>?_⟩ hG
 obtain⟨ob1,ob7,oa1,oa7,-⟩:=aB hc
 exact m_ v' a b a b k 0 w' hP' (by omega) (by omega) (by omega) (hG.below hw')
theorem oV (v:Value) (a b:List ByteArray) (k:ByteArray) (w:World) (hF:IsF w v a b) (hG:Gx w) :
  Calls Tryz.prog 39 #[v,.string k] w (cS (f_ a b k) w):=by
 obtain⟨p,c,q,d,rfl,hfa,hfb⟩:=id hF.ex
 go_enter Tryz.func39,Tryz.ntmps39
 go_upto_region 1 with fail
 have cc:=ar w (.slice p a.length c) (.slice q b.length d)
 have m1:=ac w (.cells #[.slice p a.length c,.slice q b.length d] 24)
 have z1:=size_alloc w (.cells #[.slice p a.length c,.slice q b.length d] 24)
 generalize w.alloc (.cells #[.slice p a.length c,.slice q b.length d] 24)=w1 at *
 have q2:(w1.alloc (.cells #[.slice none 0 0,.slice none 0 0] 24)).heap[w1.heap.size]?=some (.cells #[.slice none 0 0,.slice none 0 0] 24 (0,0)):=heap_alloc_new w1 _
 have m2:=ac w1 (.cells #[.slice none 0 0,.slice none 0 0] 24)
 have z2:=size_alloc w1 (.cells #[.slice none 0 0,.slice none 0 0] 24)
 have c0:=aa m2 (show w.heap.size<w1.heap.size by omega) cc.1
 have c1:=aa m2 (show w.heap.size<w1.heap.size by omega) cc.2
 generalize w1.alloc (.cells #[.slice none 0 0,.slice none 0 0] 24)=w2 at *
 rw[z1] at q2
 have M2:=xo (m1.trans (m2.mono m1.size))
 have hz2:w.heap.size+2=w2.heap.size:=by omega
 have hP:fB w2 (.agg #[.slice p a.length c,.slice q b.length d,.slice p a.length c,.slice q b.length d,.string k,.int .i64 0]) a b a b k 0 :=
  ⟨⟨p,c,q,d,p,c,q,d,rfl,hfa.below M2.out,hfb.below M2.out,hfa.below M2.out,hfb.below M2.out⟩⟩
 have HC:=xo (lR w2 a b k _ hP (hG.below M2.out))
 clear m1 z1 m2 z2 cc hfa hfb hG hF hP
 go_wp2_with fail
 refine HC.out.mono ?_
 rintro e w3 ⟨u,rfl,hu,hb3⟩
 obtain⟨r,hr⟩:∃ r,r=f_ a b k:=⟨_,rfl⟩
 rw[show f_ a b k=r from hr.symm] at hu ⊢
 obtain⟨⟨L1,L2⟩,er⟩:=r
 have HR:=xo hr
 simp only at hu ⊢
 obtain⟨p1,c1',p2,c2,rfl,g1,g2,o1,o2⟩:=hu.ex
 have hn1:Value.ownBlock (.slice p1 L1.length c1')≠some (w.heap.size+1):=fun e=>by have:=o1 _ e;omega
 have hn2:Value.ownBlock (.slice p2 L2.length c2)≠some (w.heap.size+1):=fun e=>by have:=o2 _ e;omega
 have q3:=(hb3.block (w.heap.size+1) (by omega)).trans q2
 have k0:=af q3 0
 have k1:=af q3 1
 have f0:=ak q3 0
 have f1:=ak q3 1
 have R1:=xo ((g1.other hn1 0 (.slice p1 L1.length c1')).other hn1 1 (.slice p2 L2.length c2))
 have R2:=xo ((g2.other hn2 0 (.slice p1 L1.length c1')).other hn2 1 (.slice p2 L2.length c2))
 have O1:=xo (show ∀ g,Value.ownBlock (.slice p1 L1.length c1')=some g→w.heap.size≤g from fun g e=>by have:=o1 _ e;omega)
 have O2:=xo (show ∀ g,Value.ownBlock (.slice p2 L2.length c2)=some g→w.heap.size≤g from fun g e=>by have:=o2 _ e;omega)
 have M7:=xo (((M2.out.trans (hb3.mono M2.out.size)).setCell (p:=⟨w.heap.size+1,0,none⟩) (xQ _) (.slice p1 L1.length c1')).setCell (p:=⟨w.heap.size+1,1,none⟩) (xQ _) (.slice p2 L2.length c2))
 have g0:=bd q3 (.slice p1 L1.length c1') (.slice p2 L2.length c2)
 have x0:=af g0 0
 have x1:=af g0 1
 clear hn1 hn2 g1 g2 o1 o2 q2 q3 hb3 HC hu hr
 go_wp2
 refine bodyPost_ret (v:=.tuple #[.agg #[.slice p1 L1.length c1',.slice p2 L2.length c2],.int .i64 er]) (by simp at x0 x1;simp[results,Tryz.results39,go_sem,x0,x1]) rfl ⟨_,by rw[←HR.out],?_,M7.out⟩
 rw[←HR.out]
 exact⟨⟨p1,c1',p2,c2,rfl,R1.out,R2.out,O1.out,O2.out⟩⟩
def unA:List ByteArray:=[⟨#[45,49]⟩]
def unB:List ByteArray:=[⟨#[49]⟩]
theorem rE:f9 unA unB=(([],[]),33):=by decide +kernel
theorem nC:bU unA unB [⟨#[49]⟩,⟨#[50]⟩,⟨#[48]⟩]=0∧gX unA unB [⟨#[49]⟩,⟨#[50]⟩,⟨#[48]⟩]=[false,true,true]:=by decide +kernel
theorem vE:dX unA unB ⟨#[50]⟩ ⟨#[51]⟩ 0=true∧aQ (dW unA unB ⟨#[50]⟩ ⟨#[51]⟩ 0) unA unB ⟨#[50]⟩ ⟨#[51]⟩=(true,0):=by decide +kernel
theorem vF:dX unA unB ⟨#[48]⟩ ⟨#[50]⟩ 0=true∧aQ (dW unA unB ⟨#[48]⟩ ⟨#[50]⟩ 0) unA unB ⟨#[48]⟩ ⟨#[50]⟩=(false,0):=by decide +kernel
theorem vG:aD unA unB ⟨#[49]⟩=false∧aQ false unA unB ⟨#[49]⟩ ⟨#[48]⟩=(false,8):=by decide +kernel
theorem tZ:f_ unA unB ⟨#[105]⟩=(([],[]),2)∧f_ [⟨#[52,48,57,54]⟩] unB ⟨#[50]⟩=(([],[]),8)∧cT unA unB 7=(([],[]),8):=by decide +kernel
theorem jV:au unB [⟨#[49]⟩,⟨#[48]⟩,⟨#[48]⟩]=true∧aU [⟨#[49]⟩,⟨#[48]⟩,⟨#[48]⟩]=some [⟨#[48]⟩,⟨#[48]⟩]:=by decide +kernel
theorem n8:au unB [⟨#[49]⟩,⟨#[48]⟩]=true∧(aU [⟨#[49]⟩,⟨#[48]⟩]).isSome=true∧bY [⟨#[49]⟩,⟨#[48]⟩] (ofT 1)=true:=by decide +kernel
theorem wV:b_ [⟨#[51]⟩,⟨#[52]⟩] unB=(⟨#[50,53]⟩,0):=by decide +kernel
theorem wW:cj unB [⟨#[49]⟩,⟨#[48]⟩,⟨#[49,47,52]⟩] ⟨#[49,47,50]⟩=(false,0):=by decide +kernel
theorem ed:av [] []=30∧av unB []=30∧av unB [⟨#[50]⟩]=30∧av [⟨#[105]⟩] unB=30∧av [⟨#[52,48,57,55]⟩] unB=30∧av (List.replicate 8 ⟨#[]⟩) unB=30∧av [⟨#[50,47,52]⟩] unB=30:=by decide +kernel
end Go.Proofs.YtomkanblohhpfaaGreatDoor
