/- L -/
import Derived.Test.YtmakbmhlemhgeaaGreatDoorWRQ3
import Derived.Test.YtmakbmhlemhgeaaGreatDoorWB
set_option linter.all false
set_option maxRecDepth 100000
set_option maxHeartbeats 8000000
namespace Go.Proofs.YtmakbmhlemhgeaaGreatDoor
open Go.RowKit Dg
theorem DC {ma mb:Bool}{a b:Nat} (h:ma≠mb) (hle:b<=a):sgn ma (a-b)=sgn ma a+sgn mb b:=by
 unfold sgn
 cases ma<;>cases mb<;>simp at*<;> omega
theorem DD {ma mb:Bool}{a b:Nat} (h:ma≠mb) (hle:a<=b):sgn mb (b-a)=sgn ma a+sgn mb b:=by
 unfold sgn
 cases ma<;>cases mb<;>simp at*<;> omega
theorem lU (va vb:Value) (x y:Int) (w:World) (ha:IsZ w va x) (hb:IsZ w vb y) (hfa:(av RR x.natAbs).length<1000000) (hfb:(av RR y.natAbs).length<1000000) :
  Calls Tryz.prog 145 #[va,vb] w fun e w'=>∃ v,e=.returned v/\IsZ w' v (x+y)/\Below w.heap.size w w':=by
 obtain⟨p,N,c,rfl,hN,hNc,hcm,hd⟩:=ha.parts;obtain⟨p',N',c',rfl,hN',hNc',hcm',hd'⟩:=hb.parts;obtain⟨ma,hma⟩:∃ ma,ma=decide (x<0):=⟨_,rfl⟩;obtain⟨mb,hmb⟩:∃ mb,mb=decide (y<0):=⟨_,rfl⟩;have EX:=GF (CN hma);have EY:=GF (CN hmb);rw[<-hma,<-hmb];clear hma hmb;have hl:=j1 w (.cells #[.bool ma,.slice p N c] 85) (.cells #[.bool mb,.slice p' N' c'] 85) (.cells #[.bool false,.slice none 0 0] 85);have x0:=ai hl.s0 0;have x1:=ai hl.s0 1;have y0:=ai hl.s1 0;have y1:=ai hl.s1 1;have HD:=GF (hd.below hl.below);have HD':=GF (hd'.below hl.below);clear ha hb hd hd';go_enter Tryz.func145,Tryz.ntmps145;go_upto_region 1 with fail
 generalize ((w.alloc (.cells #[.bool ma,.slice p N c] 85)).alloc (.cells #[.bool mb,.slice p' N' c'] 85)).alloc (.cells #[.bool false,.slice none 0 0] 85)=w1 at *
 by_cases hsame:ma=mb
 ·have heq:(ma == mb)=true:=by simp[hsame]
  have HE:=GF hsame;clear hsame;go_upto_region 2 with fail
  have hbd:Below w1.heap.size w1 w1.drew:=(Ki _ _).drew;have hS:pG w1.drew w.heap.size ma p N c mb p' N' c':=pG.below ⟨hl.s0,hl.s1,hl.s2⟩ hbd;have HB1:=hl.below.trans (hbd.mono hl.below.size);have HN1:=GF (HD.out.below hbd);have HD1:=GF (HD'.out.below hbd);clear HD HD' hl hbd x0 x1 y0 y1;refine wp_mono (aD (Q:=aX _) (fun wx:World=>pG wx w.heap.size ma p N c mb p' N' c') (fun i=>i == 8) (by kernel_rfl) ?_) (fun _ _ _ h=>bf h);generalize w1.drew=w2 at *
  refine Kf 0 (r:=?_)
  try simp only[Act.put,GJ,GI,GH,GG,GL,GK]
  refine Kf 2 (r:=?_)
  try simp only[Act.put,GJ,GI,GH,GG,GL,GK]
  refine Kf 4 (r:=?_)
  try simp only[Act.put,GJ,GI,GH,GG,GL,GK]
  refine aE (i:=1) (v:=?vvA) rfl (by kernel_rfl) (fun _ _ _ h=>h) rfl hS ?hyA ?restA
  case hyA =>
   intro wy hy;have q0:=ai hy.s0 0;have q1:=ai hy.s0 1;have q2:=ai hy.s1 0;have q3:=ai hy.s1 1;clear hy;go_simp;try with_reducible rfl
  try simp only[Act.put,GJ,GI,GH,GG,GL,GK]
  refine aE (i:=3) (v:=?vvB) rfl (by kernel_rfl) (fun _ _ _ h=>h) rfl hS ?hyB ?restB
  case hyB =>
   intro wy hy;have q0:=ai hy.s0 0;have q1:=ai hy.s0 1;have q2:=ai hy.s1 0;have q3:=ai hy.s1 1;clear hy;go_simp;try with_reducible rfl
  try simp only[Act.put,GJ,GI,GH,GG,GL,GK]
  refine aE (i:=5) (v:=?vvC) rfl (by kernel_rfl) (fun _ _ _ h=>h) rfl hS ?hyC ?restC
  case hyC =>
   intro wy hy;have q0:=ai hy.s0 0;have q1:=ai hy.s0 1;have q2:=ai hy.s1 0;have q3:=ai hy.s1 1;clear hy;go_simp;try with_reducible rfl
  try simp only[Act.put,GJ,GI,GH,GG,GL,GK]
  refine aA (i:=6) rfl (by kernel_rfl) rfl (fun K hK=>?_);go_simp;refine (BQ _ _ _ _ w2 HN1.out HD1.out (aW _).1 (aW _).1 hfa hfb).mono ?_;rintro e w5 ⟨v5,rfl,hsum,hb5⟩;rw[aF aQ,aF aQ] at hsum;have hS5:=hS.below hb5;refine hK _ _ (fun _ _=>hS5) ?_;clear hK K;try simp only[Act.put,GJ,GI,GH,GG,GL,GK]
  have HB5:=HB1.trans (hb5.mono HB1.size);obtain⟨o5,ho1,ho2,ho3⟩:=hsum;refine aA (i:=7) rfl (by kernel_rfl) rfl (fun K hK=>?_);go_simp;refine (dO _ _ _ w5 ho1 ho2).mono ?_;rintro e w6 ⟨v6,rfl,hz6,hb6⟩;rw[ho3,AD,EX.out,HE.out,EY.out] at hz6;clear HB1 HN1 HD1 hb5 ho1 ho2 ho3;obtain⟨p6,N6,c6,rfl,hN6,hNc6,hcm6,hd6⟩:=hz6.parts;generalize decide (x+y<0)=m6 at *
  have hS6:=hS5.below hb6;refine hK _ _ (fun _ _=>hS6) ?_;clear hK K hS hS5;try simp only[Act.put,GJ,GI,GH,GG,GL,GK]
  have HB6:=HB5.trans (hb6.mono HB5.size);have hP:=cL (u0:=.bool m6) (u1:=.slice p6 N6 c6) hS6.s2;have HZ:=GF (hz6.puts hP hS6.s2 dZ);have hB:=HB6.trans (hP.below w.heap.size (by omega));have q0:=ai hS6.s2 0;have q1:=ai hS6.s2 1;have f0:=Kg w6 (w.heap.size+1+1) 0 _ _ hS6.s2;have f1:=Kg w6 (w.heap.size+1+1) 1 _ _ hS6.s2;clear hz6 hd6 hb6 HB5;refine aA (i:=8) rfl (by kernel_rfl) rfl (fun K hK=>?_);go_simp;change K _ (gD w6 (w.heap.size+1+1) (.bool m6) (.slice p6 N6 c6));refine hK _ _ (fun h=>by cases h) ?_;clear hK K q0 q1 f0 f1;try simp only[Act.put,GJ,GI,GH,GG,GL,GK]
  refine aK (by kernel_rfl) ?_ _;simp only[aX];go_wp2_with fail
  (try simp only[Exit.inBlock,Exit.then])
  refine Kh (results_cell_row rfl _ _ (w.heap.size+1+1) _ _ (0,0) _ rfl hP.row Tryz.underlying85 rfl (by kernel_rfl)) rfl ?_;exact⟨_,rfl,HZ.out,hB⟩
 ·have heq:(ma == mb)=false:=by simpa using hsame
  have HE:=GF hsame;clear hsame;go_wp2_with fail
  refine (fj _ _ _ _ w1 HD.out HD'.out (aW _) (aW _)).mono ?_;rintro e w1' ⟨rfl,n1,rfl⟩;rw[aF aQ,aF aQ];have hbn:=below_drewN (Ki w1.heap.size w1) n1;have hbd:Below w1.heap.size w1 (w1.drewN n1).drew:=hbn.drew;have hS:pG (w1.drewN n1).drew w.heap.size ma p N c mb p' N' c':=pG.below ⟨hl.s0,hl.s1,hl.s2⟩ hbd;have HB1:=hl.below.trans (hbd.mono hl.below.size);have HN1:=GF (HD.out.below hbd);have HD1:=GF (HD'.out.below hbd);clear HD HD' hl hbd hbn x0 x1 y0 y1;by_cases hge:y.natAbs<=x.natAbs
  ·have hcg:=(vo hge).1;obtain⟨cw,hcw⟩:∃ cw,cw=dw x.natAbs y.natAbs:=⟨_,rfl⟩;rw[<-hcw] at hcg |-;have HGE:=GF hge;clear hcw hge;go_upto_region 4 with fail
   refine wp_mono (aD (Q:=aX _) (fun wx:World=>pG wx w.heap.size ma p N c mb p' N' c') (fun i=>i == 8) (by kernel_rfl) ?_) (fun _ _ _ h=>bf h);generalize (w1.drewN n1).drew=w2 at *
   refine Kf 0 (r:=?_)
   try simp only[Act.put,GJ,GI,GH,GG,GL,GK]
   refine Kf 2 (r:=?_)
   try simp only[Act.put,GJ,GI,GH,GG,GL,GK]
   refine Kf 4 (r:=?_)
   try simp only[Act.put,GJ,GI,GH,GG,GL,GK]
   refine aE (i:=1) (v:=?vvA1) rfl (by kernel_rfl) (fun _ _ _ h=>h) rfl hS ?hyA1 ?restA1
   case hyA1 =>
    intro wy hy;have q0:=ai hy.s0 0;have q1:=ai hy.s0 1;have q2:=ai hy.s1 0;have q3:=ai hy.s1 1;clear hy;go_simp;try with_reducible rfl
   try simp only[Act.put,GJ,GI,GH,GG,GL,GK]
   refine aE (i:=3) (v:=?vvB1) rfl (by kernel_rfl) (fun _ _ _ h=>h) rfl hS ?hyB1 ?restB1
   case hyB1 =>
    intro wy hy;have q0:=ai hy.s0 0;have q1:=ai hy.s0 1;have q2:=ai hy.s1 0;have q3:=ai hy.s1 1;clear hy;go_simp;try with_reducible rfl
   try simp only[Act.put,GJ,GI,GH,GG,GL,GK]
   refine aE (i:=5) (v:=?vvC1) rfl (by kernel_rfl) (fun _ _ _ h=>h) rfl hS ?hyC1 ?restC1
   case hyC1 =>
    intro wy hy;have q0:=ai hy.s0 0;have q1:=ai hy.s0 1;have q2:=ai hy.s1 0;have q3:=ai hy.s1 1;clear hy;go_simp;try with_reducible rfl
   try simp only[Act.put,GJ,GI,GH,GG,GL,GK]
   refine aA (i:=6) rfl (by kernel_rfl) rfl (fun K hK=>?_);go_simp;refine (oA _ _ _ _ w2 HN1.out HD1.out (aW _).1 (aW _).1 (ow HGE.out) (by rw[aF aQ,aF aQ];exact HGE.out) hfa).mono ?_;rintro e w5 ⟨v5,rfl,hsum,_,hb5⟩;rw[aF aQ,aF aQ] at hsum;have hS5:=hS.below hb5;refine hK _ _ (fun _ _=>hS5) ?_;clear hK K;try simp only[Act.put,GJ,GI,GH,GG,GL,GK]
   have HB5:=HB1.trans (hb5.mono HB1.size);refine aA (i:=7) rfl (by kernel_rfl) rfl (fun K hK=>?_);go_simp;refine (dO _ _ _ w5 hsum (aW _).1).mono ?_;rintro e w6 ⟨v6,rfl,hz6,hb6⟩;rw[aF aQ,DC HE.out HGE.out,EX.out,EY.out] at hz6;clear HB1 HN1 HD1 hb5 hsum;obtain⟨p6,N6,c6,rfl,hN6,hNc6,hcm6,hd6⟩:=hz6.parts;generalize decide (x+y<0)=m6 at *
   have hS6:=hS5.below hb6;refine hK _ _ (fun _ _=>hS6) ?_;clear hK K hS hS5;try simp only[Act.put,GJ,GI,GH,GG,GL,GK]
   have HB6:=HB5.trans (hb6.mono HB5.size);have hP:=cL (u0:=.bool m6) (u1:=.slice p6 N6 c6) hS6.s2;have HZ:=GF (hz6.puts hP hS6.s2 dZ);have hB:=HB6.trans (hP.below w.heap.size (by omega));have q0:=ai hS6.s2 0;have q1:=ai hS6.s2 1;have f0:=Kg w6 (w.heap.size+1+1) 0 _ _ hS6.s2;have f1:=Kg w6 (w.heap.size+1+1) 1 _ _ hS6.s2;clear hz6 hd6 hb6 HB5;refine aA (i:=8) rfl (by kernel_rfl) rfl (fun K hK=>?_);go_simp;change K _ (gD w6 (w.heap.size+1+1) (.bool m6) (.slice p6 N6 c6));refine hK _ _ (fun h=>by cases h) ?_;clear hK K q0 q1 f0 f1;try simp only[Act.put,GJ,GI,GH,GG,GL,GK]
   refine aK (by kernel_rfl) ?_ _;simp only[aX];go_wp2_with fail
   (try simp only[Exit.inBlock,Exit.then])
   refine Kh (results_cell_row rfl _ _ (w.heap.size+1+1) _ _ (0,0) _ rfl hP.row Tryz.underlying85 rfl (by kernel_rfl)) rfl ?_;exact⟨_,rfl,HZ.out,hB⟩
  ·have hcn:=rC (show x.natAbs<y.natAbs by omega);rw[hcn];have HGE:Hid (x.natAbs<=y.natAbs):=by unfold Hid;omega
   clear hcn hge;go_upto_region 5 with fail
   refine wp_mono (aD (Q:=aX _) (fun wx:World=>pG wx w.heap.size ma p N c mb p' N' c') (fun i=>i == 8) (by kernel_rfl) ?_) (fun _ _ _ h=>bf h);generalize (w1.drewN n1).drew=w2 at *
   refine Kf 0 (r:=?_)
   try simp only[Act.put,GJ,GI,GH,GG,GL,GK]
   refine Kf 2 (r:=?_)
   try simp only[Act.put,GJ,GI,GH,GG,GL,GK]
   refine Kf 4 (r:=?_)
   try simp only[Act.put,GJ,GI,GH,GG,GL,GK]
   refine aE (i:=1) (v:=?vvA2) rfl (by kernel_rfl) (fun _ _ _ h=>h) rfl hS ?hyA2 ?restA2
   case hyA2 =>
    intro wy hy;have q0:=ai hy.s0 0;have q1:=ai hy.s0 1;have q2:=ai hy.s1 0;have q3:=ai hy.s1 1;clear hy;go_simp;try with_reducible rfl
   try simp only[Act.put,GJ,GI,GH,GG,GL,GK]
   refine aE (i:=3) (v:=?vvB2) rfl (by kernel_rfl) (fun _ _ _ h=>h) rfl hS ?hyB2 ?restB2
   case hyB2 =>
    intro wy hy;have q0:=ai hy.s0 0;have q1:=ai hy.s0 1;have q2:=ai hy.s1 0;have q3:=ai hy.s1 1;clear hy;go_simp;try with_reducible rfl
   try simp only[Act.put,GJ,GI,GH,GG,GL,GK]
   refine aE (i:=5) (v:=?vvC2) rfl (by kernel_rfl) (fun _ _ _ h=>h) rfl hS ?hyC2 ?restC2
   case hyC2 =>
    intro wy hy;have q0:=ai hy.s0 0;have q1:=ai hy.s0 1;have q2:=ai hy.s1 0;have q3:=ai hy.s1 1;clear hy;go_simp;try with_reducible rfl
   try simp only[Act.put,GJ,GI,GH,GG,GL,GK]
   refine aA (i:=6) rfl (by kernel_rfl) rfl (fun K hK=>?_);go_simp;refine (oA _ _ _ _ w2 HD1.out HN1.out (aW _).1 (aW _).1 (ow HGE.out) (by rw[aF aQ,aF aQ];exact HGE.out) hfb).mono ?_;rintro e w5 ⟨v5,rfl,hsum,_,hb5⟩;rw[aF aQ,aF aQ] at hsum;have hS5:=hS.below hb5;refine hK _ _ (fun _ _=>hS5) ?_;clear hK K;try simp only[Act.put,GJ,GI,GH,GG,GL,GK]
   have HB5:=HB1.trans (hb5.mono HB1.size);refine aA (i:=7) rfl (by kernel_rfl) rfl (fun K hK=>?_);go_simp;refine (dO _ _ _ w5 hsum (aW _).1).mono ?_;rintro e w6 ⟨v6,rfl,hz6,hb6⟩;rw[aF aQ,DD HE.out HGE.out,EX.out,EY.out] at hz6;clear HB1 HN1 HD1 hb5 hsum;obtain⟨p6,N6,c6,rfl,hN6,hNc6,hcm6,hd6⟩:=hz6.parts;generalize decide (x+y<0)=m6 at *
   have hS6:=hS5.below hb6;refine hK _ _ (fun _ _=>hS6) ?_;clear hK K hS hS5;try simp only[Act.put,GJ,GI,GH,GG,GL,GK]
   have HB6:=HB5.trans (hb6.mono HB5.size);have hP:=cL (u0:=.bool m6) (u1:=.slice p6 N6 c6) hS6.s2;have HZ:=GF (hz6.puts hP hS6.s2 dZ);have hB:=HB6.trans (hP.below w.heap.size (by omega));have q0:=ai hS6.s2 0;have q1:=ai hS6.s2 1;have f0:=Kg w6 (w.heap.size+1+1) 0 _ _ hS6.s2;have f1:=Kg w6 (w.heap.size+1+1) 1 _ _ hS6.s2;clear hz6 hd6 hb6 HB5;refine aA (i:=8) rfl (by kernel_rfl) rfl (fun K hK=>?_);go_simp;change K _ (gD w6 (w.heap.size+1+1) (.bool m6) (.slice p6 N6 c6));refine hK _ _ (fun h=>by cases h) ?_;clear hK K q0 q1 f0 f1;try simp only[Act.put,GJ,GI,GH,GG,GL,GK]
   refine aK (by kernel_rfl) ?_ _;simp only[aX];go_wp2_with fail
   (try simp only[Exit.inBlock,Exit.then])
   refine Kh (results_cell_row rfl _ _ (w.heap.size+1+1) _ _ (0,0) _ rfl hP.row Tryz.underlying85 rfl (by kernel_rfl)) rfl ?_;exact⟨_,rfl,HZ.out,hB⟩
def d_ (x y:Int):Int:=if x-y=0 then 0 else if x-y<0 then -1 else 1
theorem pE (va vb:Value) (x y:Int) (w:World) (ha:IsZ w va x) (hb:IsZ w vb y) (hfa:(av RR x.natAbs).length<1000000) (hfb:(av RR y.natAbs).length<1000000) :
  Calls Tryz.prog 157 #[va,vb] w fun e w'=>e=.returned (.int .i64 (d_ x y))/\Below w.heap.size w w':=by
 obtain⟨p,N,c,rfl,hN,hNc,hcm,hd⟩:=ha.parts;obtain⟨p',N',c',rfl,hN',hNc',hcm',hd'⟩:=hb.parts;obtain⟨ma,hma⟩:∃ ma,ma=decide (x<0):=⟨_,rfl⟩;obtain⟨mb,hmb⟩:∃ mb,mb=decide (y<0):=⟨_,rfl⟩;rw[<-hma] at ha |-;rw[<-hmb] at hb |-;clear hma hmb;have hl:=jH w (.cells #[.bool ma,.slice p N c] 85) (.cells #[.bool mb,.slice p' N' c'] 85);have HX:=ha.below hl.below;have HY:=hb.below hl.below;clear ha hb hd hd';go_enter Tryz.func157,Tryz.ntmps157;go_upto_region 1 with fail
 generalize (w.alloc (.cells #[.bool ma,.slice p N c] 85)).alloc (.cells #[.bool mb,.slice p' N' c'] 85)=w1 at *
 have hbd:Below w1.heap.size w1 w1.drew:=(Ki _ _).drew;have hS:(fun wx:World=>wx.heap[w.heap.size]?=some (.cells #[.bool ma,.slice p N c] 85 (0,0))/\wx.heap[w.heap.size+1]?=some (.cells #[.bool mb,.slice p' N' c'] 85 (0,0))) w1.drew:=⟨(hbd.block _ (ak hl.s0)).trans hl.s0,(hbd.block _ (ak hl.s1)).trans hl.s1⟩;have HB1:=hl.below.trans (hbd.mono hl.below.size);replace HX:=HX.below hbd;replace HY:=HY.below hbd;clear hl hbd;refine wp_mono (aD (Q:=aX _) (fun wx:World=>wx.heap[w.heap.size]?=some (.cells #[.bool ma,.slice p N c] 85 (0,0))/\wx.heap[w.heap.size+1]?=some (.cells #[.bool mb,.slice p' N' c'] 85 (0,0))) (fun i=>i == 5) (by kernel_rfl) ?_) (fun _ _ _ h=>bf h);generalize w1.drew=w2 at *
 refine aE (i:=0) (v:=?vvA) rfl (by kernel_rfl) (fun _ _ _ h=>h) rfl hS ?hyA ?restA
 case hyA =>
  intro wy hy;have q0:=ai hy.1 0;have q1:=ai hy.1 1;have q2:=ai hy.2 0;have q3:=ai hy.2 1;clear hy;go_simp;try with_reducible rfl
 try simp only[Act.put,GJ,GI,GH,GG,GL,GK]
 refine aE (i:=1) (v:=?vvB) rfl (by kernel_rfl) (fun _ _ _ h=>h) rfl hS ?hyB ?restB
 case hyB =>
  intro wy hy;have q0:=ai hy.1 0;have q1:=ai hy.1 1;have q2:=ai hy.2 0;have q3:=ai hy.2 1;clear hy;go_simp;try with_reducible rfl
 try simp only[Act.put,GJ,GI,GH,GG,GL,GK]
 refine iw (i:=2) (i':=4) rfl rfl (by kernel_rfl) rfl rfl (fun K hK=>?_) (fun K hK=>?_)
 ·go_simp;refine (ji _ _ w2 HY).mono ?_;rintro e w4 ⟨v4,rfl,hz4,hb4⟩;obtain⟨p4,N4,c4,rfl,hN4,hNc4,hcm4,hd4⟩:=hz4.parts;have HZ4:=GF hz4;have hS4:(fun wx:World=>wx.heap[w.heap.size]?=some (.cells #[.bool ma,.slice p N c] 85 (0,0))/\wx.heap[w.heap.size+1]?=some (.cells #[.bool mb,.slice p' N' c'] 85 (0,0))) w4:=⟨(hb4.block _ (ak hS.1)).trans hS.1,(hb4.block _ (ak hS.2)).trans hS.2⟩;have HX4:=GF (HX.below hb4);generalize decide (-y<0)=m4 at *
  clear hz4 hd4;refine hK _ _ (fun _ _=>hS4) ?_;clear hK K;have hS:=hS4;try simp only[Act.put,GJ,GI,GH,GG,GL,GK]
  have HB4:=HB1.trans (hb4.mono HB1.size);clear HB1 hb4 HX HY;refine iw (i:=3) (i':=4) rfl rfl (by kernel_rfl) rfl rfl (fun K hK=>?_) (fun K hK=>?_)
  ·go_simp;refine (lU _ _ _ _ w4 HX4.out HZ4.out hfa (by rw[Jg];exact hfb)).mono ?_;rintro e w6 ⟨v6,rfl,hz6,hb6⟩;obtain⟨p6,N6,c6,rfl,hN6,hNc6,hcm6,hd6'⟩:=hz6.parts;have hd6:=GF hd6';generalize hmm:decide (x+-y<0)=m6;have hm6:=GF hmm;have hS6:(fun wx:World=>wx.heap[w.heap.size]?=some (.cells #[.bool ma,.slice p N c] 85 (0,0))/\wx.heap[w.heap.size+1]?=some (.cells #[.bool mb,.slice p' N' c'] 85 (0,0))) w6:=⟨(hb6.block _ (ak hS.1)).trans hS.1,(hb6.block _ (ak hS.2)).trans hS.2⟩;clear hmm hz6 hd6';refine hK _ _ (fun _ _=>hS6) ?_;clear hK K;try simp only[Act.put,GJ,GI,GH,GG,GL,GK]
   have HB5:=HB4.trans (hb6.mono HB4.size);have hl6:=bA w6 (.cells #[.bool false,.slice none 0 0] 85);refine aA (i:=4) rfl (by kernel_rfl) rfl (fun K hK=>?_);go_simp;refine hK _ _ (fun _ h=>⟨(hl6.below.block _ (ak h.1)).trans h.1,(hl6.below.block _ (ak h.2)).trans h.2⟩) ?_;clear hK K;try simp only[Act.put,GJ,GI,GH,GG,GL,GK]
   have hrw:=hl6.s0;have HB6:=HB5.trans (hl6.below.mono HB5.size);have hgs:w.heap.size<=w6.heap.size:=HB5.size;clear HB4 HB5 HX4 HZ4 hb6 hl6;generalize w6.heap.size=g at *
   generalize w6.alloc (.cells #[.bool false,.slice none 0 0] 85)=w8 at *
   have q0:=ai hrw 0;have q1:=ai hrw 1;have f0:=Kg w8 g 0 _ _ hrw;have f1:=Kg w8 g 1 _ _ hrw;have hP:=cL (u0:=.bool m6) (u1:=.slice p6 N6 c6) hrw;refine aA (i:=5) rfl (by kernel_rfl) rfl (fun K hK=>?_);go_simp;change K _ (gD w8 g (.bool m6) (.slice p6 N6 c6));refine hK _ _ (fun h=>by cases h) ?_;clear hK K q0 q1 f0 f1;try simp only[Act.put,GJ,GI,GH,GG,GL,GK]
   refine aK (by kernel_rfl) ?_ _;simp only[aX];have hrow:=hP.row;have HB7:=HB6.trans (hP.below w.heap.size hgs);clear hP hrw HB6;generalize gD w8 g (.bool m6) (.slice p6 N6 c6)=w7 at *
   have q0:=ai hrow 0;have q1:=ai hrow 1;by_cases h0:N6=0
   ·have hz0:=(fp hd6.out).1 h0;have hres:d_ x y=0:=by unfold d_;rw[if_pos (by omega)]
    have HRES:=GF hres;subst h0;clear hz0 hres;go_wp2;go_ret;exact⟨by rw[HRES.out];rfl,HB7⟩
   ·have hz0:¬ (x+-y).natAbs=0:=fun e=>h0 ((fp hd6.out).2 e);have hne:((N6:Int) == 0)=false:=by simp;omega
    have H0:=GF h0;clear h0
    cases m6
    ·have hres:d_ x y=1:=by
      have:=hm6.out;simp at this;unfold d_;rw[if_neg (by omega),if_neg (by omega)]
     have HRES:=GF hres;clear hz0 hres;go_wp2;go_ret;exact⟨by rw[HRES.out];rfl,HB7⟩
    ·have hres:d_ x y=-1:=by
      have:=hm6.out;simp at this;unfold d_;rw[if_neg (by omega),if_pos (by omega)]
     have HRES:=GF hres;clear hz0 hres;go_wp2;go_ret;exact⟨by rw[HRES.out];rfl,HB7⟩
  ·go_simp;have hl4:=bA w4 (.cells #[.bool false,.slice none 0 0] 85);have hSn:(fun wx:World=>wx.heap[w.heap.size]?=some (.cells #[.bool ma,.slice p N c] 85 (0,0))/\wx.heap[w.heap.size+1]?=some (.cells #[.bool mb,.slice p' N' c'] 85 (0,0))) (w4.alloc (.cells #[.bool false,.slice none 0 0] 85)):=⟨(hl4.below.block _ (ak hS.1)).trans hS.1,(hl4.below.block _ (ak hS.2)).trans hS.2⟩;refine hK _ _ (fun _ _=>hSn) ?_;clear hK K hS hS4;have hS:=hSn;try simp only[Act.put,GJ,GI,GH,GG,GL,GK]
   have HX4':=GF (HX4.out.below hl4.below);have HZ4':=GF (HZ4.out.below hl4.below);have hrz:=hl4.s0;have HB5:=HB4.trans (hl4.below.mono HB4.size);have hgs:w.heap.size<=w4.heap.size:=HB4.size;clear HB4 HX4 HZ4 hl4 hSn;have HX4:=HX4';have HZ4:=HZ4';clear HX4' HZ4';generalize w4.heap.size=g at *
   generalize w4.alloc (.cells #[.bool false,.slice none 0 0] 85)=w5 at *
   refine aA (i:=3) rfl (by kernel_rfl) rfl (fun K hK=>?_);go_simp;refine (lU _ _ _ _ w5 HX4.out HZ4.out hfa (by rw[Jg];exact hfb)).mono ?_;rintro e w6 ⟨v6,rfl,hz6,hb6⟩;obtain⟨p6,N6,c6,rfl,hN6,hNc6,hcm6,hd6'⟩:=hz6.parts;have hd6:=GF hd6';generalize hmm:decide (x+-y<0)=m6;have hm6:=GF hmm;have hS6:(fun wx:World=>wx.heap[w.heap.size]?=some (.cells #[.bool ma,.slice p N c] 85 (0,0))/\wx.heap[w.heap.size+1]?=some (.cells #[.bool mb,.slice p' N' c'] 85 (0,0))) w6:=⟨(hb6.block _ (ak hS.1)).trans hS.1,(hb6.block _ (ak hS.2)).trans hS.2⟩;clear hmm hz6 hd6';refine hK _ _ (fun _ _=>hS6) ?_;clear hK K;try simp only[Act.put,GJ,GI,GH,GG,GL,GK]
   have hrw:=(hb6.block _ (ak hrz)).trans hrz;have HB6:=HB5.trans (hb6.mono HB5.size);clear hb6 hrz HB5 HX4 HZ4;have q0:=ai hrw 0;have q1:=ai hrw 1;have f0:=Kg w6 g 0 _ _ hrw;have f1:=Kg w6 g 1 _ _ hrw;have hP:=cL (u0:=.bool m6) (u1:=.slice p6 N6 c6) hrw;refine aA (i:=5) rfl (by kernel_rfl) rfl (fun K hK=>?_);go_simp;change K _ (gD w6 g (.bool m6) (.slice p6 N6 c6));refine hK _ _ (fun h=>by cases h) ?_;clear hK K q0 q1 f0 f1;try simp only[Act.put,GJ,GI,GH,GG,GL,GK]
   refine aK (by kernel_rfl) ?_ _;simp only[aX];have hrow:=hP.row;have HB7:=HB6.trans (hP.below w.heap.size hgs);clear hP hrw HB6;generalize gD w6 g (.bool m6) (.slice p6 N6 c6)=w7 at *
   have q0:=ai hrow 0;have q1:=ai hrow 1;by_cases h0:N6=0
   ·have hz0:=(fp hd6.out).1 h0;have hres:d_ x y=0:=by unfold d_;rw[if_pos (by omega)]
    have HRES:=GF hres;subst h0;clear hz0 hres;go_wp2;go_ret;exact⟨by rw[HRES.out];rfl,HB7⟩
   ·have hz0:¬ (x+-y).natAbs=0:=fun e=>h0 ((fp hd6.out).2 e);have hne:((N6:Int) == 0)=false:=by simp;omega
    have H0:=GF h0;clear h0
    cases m6
    ·have hres:d_ x y=1:=by
      have:=hm6.out;simp at this;unfold d_;rw[if_neg (by omega),if_neg (by omega)]
     have HRES:=GF hres;clear hz0 hres;go_wp2;go_ret;exact⟨by rw[HRES.out];rfl,HB7⟩
    ·have hres:d_ x y=-1:=by
      have:=hm6.out;simp at this;unfold d_;rw[if_neg (by omega),if_pos (by omega)]
     have HRES:=GF hres;clear hz0 hres;go_wp2;go_ret;exact⟨by rw[HRES.out];rfl,HB7⟩
 ·go_simp;have hl4:=bA w2 (.cells #[.bool false,.slice none 0 0] 85);have hSn:(fun wx:World=>wx.heap[w.heap.size]?=some (.cells #[.bool ma,.slice p N c] 85 (0,0))/\wx.heap[w.heap.size+1]?=some (.cells #[.bool mb,.slice p' N' c'] 85 (0,0))) (w2.alloc (.cells #[.bool false,.slice none 0 0] 85)):=⟨(hl4.below.block _ (ak hS.1)).trans hS.1,(hl4.below.block _ (ak hS.2)).trans hS.2⟩;refine hK _ _ (fun _ _=>hSn) ?_;clear hK K hS;have hS:=hSn;try simp only[Act.put,GJ,GI,GH,GG,GL,GK]
  replace HX:=HX.below hl4.below;replace HY:=HY.below hl4.below;have hrz:=hl4.s0;have HB5:=HB1.trans (hl4.below.mono HB1.size);have hgs:w.heap.size<=w2.heap.size:=HB1.size;clear HB1 hl4 hSn;generalize w2.heap.size=g at *
  generalize w2.alloc (.cells #[.bool false,.slice none 0 0] 85)=w5 at *
  refine aA (i:=2) rfl (by kernel_rfl) rfl (fun K hK=>?_);go_simp;refine (ji _ _ w5 HY).mono ?_;rintro e w4 ⟨v4,rfl,hz4,hb4⟩;obtain⟨p4,N4,c4,rfl,hN4,hNc4,hcm4,hd4⟩:=hz4.parts;have HZ4:=GF hz4;have hS4:(fun wx:World=>wx.heap[w.heap.size]?=some (.cells #[.bool ma,.slice p N c] 85 (0,0))/\wx.heap[w.heap.size+1]?=some (.cells #[.bool mb,.slice p' N' c'] 85 (0,0))) w4:=⟨(hb4.block _ (ak hS.1)).trans hS.1,(hb4.block _ (ak hS.2)).trans hS.2⟩;have HX4:=GF (HX.below hb4);generalize decide (-y<0)=m4 at *
  clear hz4 hd4;refine hK _ _ (fun _ _=>hS4) ?_;clear hK K;have hS:=hS4;try simp only[Act.put,GJ,GI,GH,GG,GL,GK]
  have HB4:=HB5.trans (hb4.mono HB5.size);have hrz4:=(hb4.block _ (ak hrz)).trans hrz;clear HB5 hb4 HX HY hrz;refine aA (i:=3) rfl (by kernel_rfl) rfl (fun K hK=>?_);go_simp;refine (lU _ _ _ _ w4 HX4.out HZ4.out hfa (by rw[Jg];exact hfb)).mono ?_;rintro e w6 ⟨v6,rfl,hz6,hb6⟩;obtain⟨p6,N6,c6,rfl,hN6,hNc6,hcm6,hd6'⟩:=hz6.parts;have hd6:=GF hd6';generalize hmm:decide (x+-y<0)=m6;have hm6:=GF hmm;have hS6:(fun wx:World=>wx.heap[w.heap.size]?=some (.cells #[.bool ma,.slice p N c] 85 (0,0))/\wx.heap[w.heap.size+1]?=some (.cells #[.bool mb,.slice p' N' c'] 85 (0,0))) w6:=⟨(hb6.block _ (ak hS.1)).trans hS.1,(hb6.block _ (ak hS.2)).trans hS.2⟩;clear hmm hz6 hd6';refine hK _ _ (fun _ _=>hS6) ?_;clear hK K;try simp only[Act.put,GJ,GI,GH,GG,GL,GK]
  have hrw:=(hb6.block _ (ak hrz4)).trans hrz4;have HB6:=HB4.trans (hb6.mono HB4.size);clear hb6 hrz4 HB4 HX4 HZ4;have q0:=ai hrw 0;have q1:=ai hrw 1;have f0:=Kg w6 g 0 _ _ hrw;have f1:=Kg w6 g 1 _ _ hrw;have hP:=cL (u0:=.bool m6) (u1:=.slice p6 N6 c6) hrw;refine aA (i:=5) rfl (by kernel_rfl) rfl (fun K hK=>?_);go_simp;change K _ (gD w6 g (.bool m6) (.slice p6 N6 c6));refine hK _ _ (fun h=>by cases h) ?_;clear hK K q0 q1 f0 f1;try simp only[Act.put,GJ,GI,GH,GG,GL,GK]
  refine aK (by kernel_rfl) ?_ _;simp only[aX];have hrow:=hP.row;have HB7:=HB6.trans (hP.below w.heap.size hgs);clear hP hrw HB6;generalize gD w6 g (.bool m6) (.slice p6 N6 c6)=w7 at *
  have q0:=ai hrow 0;have q1:=ai hrow 1;by_cases h0:N6=0
  ·have hz0:=(fp hd6.out).1 h0;have hres:d_ x y=0:=by unfold d_;rw[if_pos (by omega)]
   have HRES:=GF hres;subst h0;clear hz0 hres;go_wp2;go_ret;exact⟨by rw[HRES.out];rfl,HB7⟩
  ·have hz0:¬ (x+-y).natAbs=0:=fun e=>h0 ((fp hd6.out).2 e);have hne:((N6:Int) == 0)=false:=by simp;omega
   have H0:=GF h0;clear h0
   cases m6
   ·have hres:d_ x y=1:=by
     have:=hm6.out;simp at this;unfold d_;rw[if_neg (by omega),if_neg (by omega)]
    have HRES:=GF hres;clear hz0 hres;go_wp2;go_ret;exact⟨by rw[HRES.out];rfl,HB7⟩
   ·have hres:d_ x y=-1:=by
     have:=hm6.out;simp at this;unfold d_;rw[if_neg (by omega),if_pos (by omega)]
    have HRES:=GF hres;clear hz0 hres;go_wp2;go_ret;exact⟨by rw[HRES.out];rfl,HB7⟩
end Go.Proofs.YtmakbmhlemhgeaaGreatDoor
