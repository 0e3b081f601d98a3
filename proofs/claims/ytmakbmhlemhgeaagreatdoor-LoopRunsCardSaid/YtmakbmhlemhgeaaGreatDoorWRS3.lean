/- L -/
import Derived.Test.YtmakbmhlemhgeaaGreatDoorWRT5
import Derived.Test.YtmakbmhlemhgeaaGreatDoorWB
set_option linter.all false
namespace Go.Proofs.YtmakbmhlemhgeaaGreatDoor
open Go.RowKit Dg Dc
theorem rH {n e m:Nat} (hm:m=501) (he:e<=4*m) (h:n<10 ^ e):bC n:=by
 unfold bC
 have h2:10 ^ e<=RR ^ m:=by
  rw[v_];exact G1 (by omega) he
 have:=a_ aQ (GN h h2);omega
theorem lA (s:List UInt8):bC (dC s).1:=by
 have h1:=gH _ (iE s 2001);have h2:(s.take (dM s 2001)).length<=2001:=by rw[Hd];have:=(eJ s 2001).1;omega
 have h3:a8 (s.take (dM s 2001))<_:=h1;exact rH (m:=501) rfl (by omega) h3
theorem CI (s:List UInt8):(dC s).2.length=s.length-dM s 2001/\dM s 2001<=s.length:=⟨by unfold dC;simp,(eJ s 2001).2⟩
theorem rK {t:ByteArray}{l:List UInt8} (h:t.data.toList=l) (h0:0<t.size):l.head?=some (t[0]'h0):=by
 subst h;rw[List.head?_eq_getElem?,G4 (by simpa using h0)];rfl
theorem zR {s:List UInt8} (h:dM s 2001=0):b9 s=(⟨false,1,1⟩,s):=by unfold b9;rw[if_pos h]
theorem k9 {s:List UInt8} (h:dM s 2001≠0) (h2:¬ ((dC s).2.head?=some 47/\(dC ((dC s).2.drop 1)).1≠0)):b9 s=(⟨false,(dC s).1,1⟩,(dC s).2):=by unfold b9;rw[if_neg h,if_neg h2]
theorem zS {s:List UInt8} (h:dM s 2001≠0) (h2:(dC s).2.head?=some 47/\(dC ((dC s).2.drop 1)).1≠0):b9 s=(dF false (dC s).1 (dC ((dC s).2.drop 1)).1,(dC ((dC s).2.drop 1)).2):=by unfold b9;rw[if_neg h,if_pos h2]
set_option maxRecDepth 100000 in
set_option maxHeartbeats 4000000 in
theorem lK (s:ByteArray) (w:World) :
  Calls Tryz.prog 159 #[.string s] w fun e w'=>∃ v t,e=.returned (.tuple #[v,.string t])/\bV w' v (b9 s.data.toList).1/\Hid (t.data.toList=(b9 s.data.toList).2)/\Below w.heap.size w w':=by
 have hl:=bA w (.cells #[.bool false,.slice none 0 0,.bool false,.slice none 0 0] 87);have hsl:Hid (s.data.toList.length=s.size):=by unfold Hid;simp
 have hrl:=GF (CI s.data.toList);go_enter Tryz.func159,Tryz.ntmps159;go_upto_region 1 with fail
 generalize w.alloc (.cells #[.bool false,.slice none 0 0,.bool false,.slice none 0 0] 87)=w1 at *
 go_wp2_with fail
 refine (oJ s w1).mono ?_;rintro e w2 ⟨v2,t,rfl,hz2,ht,hb2⟩;obtain⟨p,N,c,rfl,hN,hNc,hcm,hd2⟩:=hz2.nat;have hl2:=bA w2 (.cells #[.bool false,.slice p N c] 85);have hb3:=hb2.trans (hl2.below.mono hb2.size);have HB:=hl.below.trans (hb3.mono hl.below.size);have hr0:=(hb3.block _ (ak hl.s0)).trans hl.s0;have hr4:=hl2.s0;have HN:=GF (hd2.below hl2.below);have htl:Hid (t.data.toList.length=t.size):=by unfold Hid;simp
 clear hl hl2 hb2 hb3 hz2 hd2;go_upto_region 2 with fail
 generalize w2.alloc (.cells #[.bool false,.slice p N c] 85)=w3 at *
 generalize w2.heap.size=g4 at *
 have hts:Hid (t.size=s.size-dM s.data.toList 2001/\dM s.data.toList 2001<=s.size):=by
  have h1:=hrl.out;rw[<-ht.out,htl.out,hsl.out] at h1;exact h1
 by_cases h0:dM s.data.toList 2001=0
 ·have heq:((t.size:Int) == (s.size:Int))=true:=by have:=hts.out;simp;omega
  have HR:=GF (zR h0);clear h0 hr4;go_wp2_with fail
  refine (lM 1 (by omega) w3).mono ?_;rintro e w8 ⟨v8,rfl,hz8,hb8⟩;obtain⟨p8,N8,c8,p9,N9,c9,rfl,hN8,hNc8,hcm8,hN9,hNc9,hcm9,hd8,hd9⟩:=hz8.parts;have u2:=(hb8.block _ (ak hr0)).trans hr0;have HB8:=HB.trans (hb8.mono HB.size);have hP:=bj (u0:=.bool false) (u1:=.slice p8 N8 c8) (u2:=.bool false) (u3:=.slice p9 N9 c9) u2
  have hZ:Hid (bV (d7 w8 w.heap.size (.bool false) (.slice p8 N8 c8) (.bool false) (.slice p9 N9 c9)) (.agg #[.bool false,.slice p8 N8 c8,.bool false,.slice p9 N9 c9]) (b9 s.data.toList).1):=by
   rw[HR.out];exact hz8.puts hP u2 bU
  have hB:=HB8.trans (hP.below w.heap.size (by omega));have q0:=ai u2 0;have q1:=ai u2 1;have q2:=ai u2 2;have q3:=ai u2 3;have f0:=Kg w8 w.heap.size 0 _ _ u2;have f1:=Kg w8 w.heap.size 1 _ _ u2;have f2:=Kg w8 w.heap.size 2 _ _ u2;have f3:=Kg w8 w.heap.size 3 _ _ u2;clear HN hz8 hd8 hd9 hr0 hb8;go_wp2_with fail
  (try simp only[Exit.inBlock,Exit.then])
  change bodyPost _ _ _ _ _ (d7 w8 w.heap.size (.bool false) (.slice p8 N8 c8) (.bool false) (.slice p9 N9 c9));refine Kh (aS rfl _ _ w.heap.size _ _ (0,0) _ rfl hP.row Tryz.underlying87 rfl (by kernel_rfl)) rfl ?_;exact⟨_,s,rfl,hZ.out,by unfold Hid;rw[HR.out],hB⟩
 ·have heq:((t.size:Int) == (s.size:Int))=false:=by have:=hts.out;simp;omega
  by_cases h1:0<t.size
  ·by_cases h2:t[0]=47
   ·have hb47:((t[0].toNat:Int) == 47)=true:=by rw[h2];rfl
    have hhead:=rK ht.out h1;rw[h2] at hhead;have H2:=GF h2;clear h2;go_wp2_with fail
    have htx:Hid ((t.extract 1 t.size).data.toList=t.data.toList.drop 1):=by
     unfold Hid;simp;exact GU (Ji (by rw[List.length_tail,htl.out]))
    refine (oJ _ w3).mono ?_;rintro e w5 ⟨v5,t5,rfl,hz5,ht5,hb5⟩;rw[htx.out,ht.out] at hz5 ht5;obtain⟨p5,N5,c5,rfl,hN5,hNc5,hcm5,hd5⟩:=hz5.nat;have hl5:=bA w5 (.cells #[.bool false,.slice p5 N5 c5] 85);have hb6:=hb5.trans (hl5.below.mono hb5.size);have hs0:=(hb6.block _ (ak hr0)).trans hr0;have hs4:=(hb6.block _ (ak hr4)).trans hr4;have HB6:=HB.trans (hb6.mono HB.size);have hr6:=hl5.s0;have HN6:=GF (HN.out.below hb6);have HD6:=GF (hd5.below hl5.below);clear hl5 hb5 hb6 hz5 hd5 hr0 hr4 HN HB;have hr0:=hs0;have hr4:=hs4;have HN:=HN6;have HB:=HB6;clear hs0 hs4 HN6 HB6;go_upto_region 6 with fail
    generalize w5.alloc (.cells #[.bool false,.slice p5 N5 c5] 85)=w6 at *
    generalize w5.heap.size=g6 at *
    have q1:=ai hr6 1;by_cases hN0:N5=0
    ·have hz0:=(fp HD6.out).1 hN0;have HR:=GF (k9 h0 (fun h=>h.2 hz0));subst hN0;clear hz0 hhead hr6 HD6;go_upto_region 8 with fail
     have hbd:Below w6.heap.size w6 w6.drew:=(Ki _ _).drew;have s0:=(hbd.block _ (ak hr0)).trans hr0;have s4:=(hbd.block _ (ak hr4)).trans hr4;have HB2:=HB.trans (hbd.mono HB.size);have HN2:=GF (HN.out.below hbd);have hS:(fun wx:World=>wx.cell? ⟨g4,0,none⟩=some (.bool false)/\wx.cell? ⟨g4,1,none⟩=some (.slice p N c)) w6.drew:=⟨ai s4 0,ai s4 1⟩;refine wp_mono (aD (Q:=aX _) (fun wx:World=>wx.cell? ⟨g4,0,none⟩=some (.bool false)/\wx.cell? ⟨g4,1,none⟩=some (.slice p N c)) (fun i=>i == 4) (by kernel_rfl) ?_) (fun _ _ _ h=>bf h);clear hbd hr0 hr4 HB HN;generalize w6.drew=w7 at *
     refine aE (i:=0) (v:=?vvT3) rfl (by kernel_rfl) (fun _ _ _ h=>h) rfl hS ?hyT3 ?restT3
     case hyT3 =>
      intro wy hy;obtain⟨e0,e1⟩:=hy;go_simp;try with_reducible rfl
     try simp only[Act.put,GJ,GI,GH,GG,GL,GK]
     refine Kf 3 (r:=?_)
     try simp only[Act.put,GJ,GI,GH,GG,GL,GK]
     refine aA (i:=1) rfl (by kernel_rfl) rfl (fun K hK=>?_);go_simp;refine (jG 1 (by omega) w7).mono ?_;rintro e w8 ⟨v8,rfl,hz8,hb8⟩;obtain⟨p8,N8,c8,rfl,hN8,hNc8,hcm8,hd8⟩:=hz8.nat;have hlt4:=ak s4;refine hK _ _ (fun _ hs=>⟨(hb8.cell (p:=⟨_,_,none⟩) hlt4).trans hs.1,(hb8.cell (p:=⟨_,_,none⟩) hlt4).trans hs.2⟩) ?_;clear hK K hS;try simp only[Act.put,GJ,GI,GH,GG,GL,GK]
     refine Kf 2 (r:=?_)
     try simp only[Act.put,GJ,GI,GH,GG,GL,GK]
     have u2:=(hb8.block _ (ak s0)).trans s0;have HB8:=HB2.trans (hb8.mono HB2.size);have hP:=bj (u0:=.bool false) (u1:=.slice p N c) (u2:=.bool false) (u3:=.slice p8 N8 c8) u2
     have hZ:Hid (bV (d7 w8 w.heap.size (.bool false) (.slice p N c) (.bool false) (.slice p8 N8 c8)) (.agg #[.bool false,.slice p N c,.bool false,.slice p8 N8 c8]) (b9 s.data.toList).1):=by
      rw[HR.out];exact⟨_,_,rfl,hP.isI u2 bU (HN2.out.below hb8),hP.isI u2 bU hd8⟩
     have hB:=HB8.trans (hP.below w.heap.size (by omega));have q0:=ai u2 0;have q1:=ai u2 1;have q2:=ai u2 2;have q3:=ai u2 3;have f0:=Kg w8 w.heap.size 0 _ _ u2;have f1:=Kg w8 w.heap.size 1 _ _ u2;have f2:=Kg w8 w.heap.size 2 _ _ u2;have f3:=Kg w8 w.heap.size 3 _ _ u2;clear HN2 hz8 hd8 HB2 s0 s4 hb8;refine aA (i:=4) rfl (by kernel_rfl) rfl (fun K hK=>?_);go_simp;change K _ (d7 w8 w.heap.size (.bool false) (.slice p N c) (.bool false) (.slice p8 N8 c8));refine hK _ _ (fun h=>by cases h) ?_;clear hK K q0 q1 q2 q3 f0 f1 f2 f3;try simp only[Act.put,GJ,GI,GH,GG,GL,GK]
     refine Kf 5 (r:=?_)
     try simp only[Act.put,GJ,GI,GH,GG,GL,GK]
     try simp only[Act.put,GJ,GI,GH,GG,GL,GK]
     refine aK (by kernel_rfl) ?_ _;simp only[aX];go_wp2_with fail
     (try simp only[Exit.inBlock,Exit.then])
     refine Kh (aS rfl _ _ w.heap.size _ _ (0,0) _ rfl hP.row Tryz.underlying87 rfl (by kernel_rfl)) rfl ?_;exact⟨_,t,rfl,hZ.out,by unfold Hid;rw[HR.out];exact ht.out,hB⟩
    ·have hz0:(dC ((dC s.data.toList).2.drop 1)).1≠0:=fun h=>hN0 ((fp HD6.out).2 h);have HR:=GF (zS h0 ⟨hhead,hz0⟩);have hNp:0<N5:=by omega
     have q6:=ai hr6 0;have y0:=ai hr4 0;have y1:=ai hr4 1;have HZ0:=GF hz0;clear hhead hN0 hz0;go_wp2_with fail
     refine (Ee _ _ _ _ w6 (js HN.out) (js HD6.out) (IC HZ0.out) (lA _) (lA _)).mono ?_;rintro e w8 ⟨v8,rfl,hz8,hb8⟩;rw[<-show (b9 s.data.toList).1=dF false (dC s.data.toList).1 (dC ((dC s.data.toList).2.drop 1)).1 by rw[HR.out]] at hz8;obtain⟨p8,N8,c8,p9,N9,c9,rfl,hN8,hNc8,hcm8,hN9,hNc9,hcm9,hd8,hd9⟩:=hz8.parts;generalize (b9 s.data.toList).1.minus=m8 at *
     have u2:=(hb8.block _ (ak hr0)).trans hr0;have HB8:=HB.trans (hb8.mono HB.size);have hP:=bj (u0:=.bool m8) (u1:=.slice p8 N8 c8) (u2:=.bool false) (u3:=.slice p9 N9 c9) u2;have hZ:=GF (hz8.puts hP u2 bU);have hB:=HB8.trans (hP.below w.heap.size (by omega));have q0:=ai u2 0;have q1:=ai u2 1;have q2:=ai u2 2;have q3:=ai u2 3;have f0:=Kg w8 w.heap.size 0 _ _ u2;have f1:=Kg w8 w.heap.size 1 _ _ u2;have f2:=Kg w8 w.heap.size 2 _ _ u2;have f3:=Kg w8 w.heap.size 3 _ _ u2;clear HN HD6 hz8 hd8 hd9 hr0 hr4 hr6 hb8 q6 y0 y1;go_wp2_with fail
     (try simp only[Exit.inBlock,Exit.then])
     change bodyPost _ _ _ _ _ (d7 w8 w.heap.size (.bool m8) (.slice p8 N8 c8) (.bool false) (.slice p9 N9 c9));refine Kh (aS rfl _ _ w.heap.size _ _ (0,0) _ rfl hP.row Tryz.underlying87 rfl (by kernel_rfl)) rfl ?_;exact⟨_,t5,rfl,hZ.out,by unfold Hid;rw[HR.out];exact ht5.out,hB⟩
   ·have hb47:((t[0].toNat:Int) == 47)=false:=by
     simp only[beq_eq_false_iff_ne,ne_eq];intro e;exact h2 (UInt8.toNat_inj.1 (by have h7:t[0].toNat=47:=(by omega);rw[h7];rfl))
    have HR:=GF (k9 h0 (fun h=>by have:=rK ht.out h1;rw[this] at h;exact h2 (Option.some.inj h.1)));clear h2;go_upto_region 8 with fail
    have hbd:Below w3.heap.size w3 w3.drew:=(Ki _ _).drew;have s0:=(hbd.block _ (ak hr0)).trans hr0;have s4:=(hbd.block _ (ak hr4)).trans hr4;have HB2:=HB.trans (hbd.mono HB.size);have HN2:=GF (HN.out.below hbd);have hS:(fun wx:World=>wx.cell? ⟨g4,0,none⟩=some (.bool false)/\wx.cell? ⟨g4,1,none⟩=some (.slice p N c)) w3.drew:=⟨ai s4 0,ai s4 1⟩;refine wp_mono (aD (Q:=aX _) (fun wx:World=>wx.cell? ⟨g4,0,none⟩=some (.bool false)/\wx.cell? ⟨g4,1,none⟩=some (.slice p N c)) (fun i=>i == 4) (by kernel_rfl) ?_) (fun _ _ _ h=>bf h);clear hbd hr0 hr4 HB HN;generalize w3.drew=w7 at *
    refine aE (i:=0) (v:=?vvT1) rfl (by kernel_rfl) (fun _ _ _ h=>h) rfl hS ?hyT1 ?restT1
    case hyT1 =>
     intro wy hy;obtain⟨e0,e1⟩:=hy;go_simp;try with_reducible rfl
    try simp only[Act.put,GJ,GI,GH,GG,GL,GK]
    refine Kf 3 (r:=?_)
    try simp only[Act.put,GJ,GI,GH,GG,GL,GK]
    refine aA (i:=1) rfl (by kernel_rfl) rfl (fun K hK=>?_);go_simp;refine (jG 1 (by omega) w7).mono ?_;rintro e w8 ⟨v8,rfl,hz8,hb8⟩;obtain⟨p8,N8,c8,rfl,hN8,hNc8,hcm8,hd8⟩:=hz8.nat;have hlt4:=ak s4;refine hK _ _ (fun _ hs=>⟨(hb8.cell (p:=⟨_,_,none⟩) hlt4).trans hs.1,(hb8.cell (p:=⟨_,_,none⟩) hlt4).trans hs.2⟩) ?_;clear hK K hS;try simp only[Act.put,GJ,GI,GH,GG,GL,GK]
    refine Kf 2 (r:=?_)
    try simp only[Act.put,GJ,GI,GH,GG,GL,GK]
    have u2:=(hb8.block _ (ak s0)).trans s0;have HB8:=HB2.trans (hb8.mono HB2.size);have hP:=bj (u0:=.bool false) (u1:=.slice p N c) (u2:=.bool false) (u3:=.slice p8 N8 c8) u2
    have hZ:Hid (bV (d7 w8 w.heap.size (.bool false) (.slice p N c) (.bool false) (.slice p8 N8 c8)) (.agg #[.bool false,.slice p N c,.bool false,.slice p8 N8 c8]) (b9 s.data.toList).1):=by
     rw[HR.out];exact⟨_,_,rfl,hP.isI u2 bU (HN2.out.below hb8),hP.isI u2 bU hd8⟩
    have hB:=HB8.trans (hP.below w.heap.size (by omega));have q0:=ai u2 0;have q1:=ai u2 1;have q2:=ai u2 2;have q3:=ai u2 3;have f0:=Kg w8 w.heap.size 0 _ _ u2;have f1:=Kg w8 w.heap.size 1 _ _ u2;have f2:=Kg w8 w.heap.size 2 _ _ u2;have f3:=Kg w8 w.heap.size 3 _ _ u2;clear HN2 hz8 hd8 HB2 s0 s4 hb8;refine aA (i:=4) rfl (by kernel_rfl) rfl (fun K hK=>?_);go_simp;change K _ (d7 w8 w.heap.size (.bool false) (.slice p N c) (.bool false) (.slice p8 N8 c8));refine hK _ _ (fun h=>by cases h) ?_;clear hK K q0 q1 q2 q3 f0 f1 f2 f3;try simp only[Act.put,GJ,GI,GH,GG,GL,GK]
    refine Kf 5 (r:=?_)
    try simp only[Act.put,GJ,GI,GH,GG,GL,GK]
    try simp only[Act.put,GJ,GI,GH,GG,GL,GK]
    refine aK (by kernel_rfl) ?_ _;simp only[aX];go_wp2_with fail
    (try simp only[Exit.inBlock,Exit.then])
    refine Kh (aS rfl _ _ w.heap.size _ _ (0,0) _ rfl hP.row Tryz.underlying87 rfl (by kernel_rfl)) rfl ?_;exact⟨_,t,rfl,hZ.out,by unfold Hid;rw[HR.out];exact ht.out,hB⟩
  ·have HR:=GF (k9 h0 (fun h=>by
    have h3:(dC s.data.toList).2=[]:=by
     rw[<-ht.out];exact Hu (by have:=htl.out;omega)
    rw[h3] at h;cases h.1))
   go_upto_region 8 with fail
   have hbd:Below w3.heap.size w3 w3.drew:=(Ki _ _).drew;have s0:=(hbd.block _ (ak hr0)).trans hr0;have s4:=(hbd.block _ (ak hr4)).trans hr4;have HB2:=HB.trans (hbd.mono HB.size);have HN2:=GF (HN.out.below hbd);have hS:(fun wx:World=>wx.cell? ⟨g4,0,none⟩=some (.bool false)/\wx.cell? ⟨g4,1,none⟩=some (.slice p N c)) w3.drew:=⟨ai s4 0,ai s4 1⟩;refine wp_mono (aD (Q:=aX _) (fun wx:World=>wx.cell? ⟨g4,0,none⟩=some (.bool false)/\wx.cell? ⟨g4,1,none⟩=some (.slice p N c)) (fun i=>i == 4) (by kernel_rfl) ?_) (fun _ _ _ h=>bf h);clear hbd hr0 hr4 HB HN;generalize w3.drew=w7 at *
   refine aE (i:=0) (v:=?vvT2) rfl (by kernel_rfl) (fun _ _ _ h=>h) rfl hS ?hyT2 ?restT2
   case hyT2 =>
    intro wy hy;obtain⟨e0,e1⟩:=hy;go_simp;try with_reducible rfl
   try simp only[Act.put,GJ,GI,GH,GG,GL,GK]
   refine Kf 3 (r:=?_)
   try simp only[Act.put,GJ,GI,GH,GG,GL,GK]
   refine aA (i:=1) rfl (by kernel_rfl) rfl (fun K hK=>?_);go_simp;refine (jG 1 (by omega) w7).mono ?_;rintro e w8 ⟨v8,rfl,hz8,hb8⟩;obtain⟨p8,N8,c8,rfl,hN8,hNc8,hcm8,hd8⟩:=hz8.nat;have hlt4:=ak s4;refine hK _ _ (fun _ hs=>⟨(hb8.cell (p:=⟨_,_,none⟩) hlt4).trans hs.1,(hb8.cell (p:=⟨_,_,none⟩) hlt4).trans hs.2⟩) ?_;clear hK K hS;try simp only[Act.put,GJ,GI,GH,GG,GL,GK]
   refine Kf 2 (r:=?_)
   try simp only[Act.put,GJ,GI,GH,GG,GL,GK]
   have u2:=(hb8.block _ (ak s0)).trans s0;have HB8:=HB2.trans (hb8.mono HB2.size);have hP:=bj (u0:=.bool false) (u1:=.slice p N c) (u2:=.bool false) (u3:=.slice p8 N8 c8) u2
   have hZ:Hid (bV (d7 w8 w.heap.size (.bool false) (.slice p N c) (.bool false) (.slice p8 N8 c8)) (.agg #[.bool false,.slice p N c,.bool false,.slice p8 N8 c8]) (b9 s.data.toList).1):=by
    rw[HR.out];exact⟨_,_,rfl,hP.isI u2 bU (HN2.out.below hb8),hP.isI u2 bU hd8⟩
   have hB:=HB8.trans (hP.below w.heap.size (by omega));have q0:=ai u2 0;have q1:=ai u2 1;have q2:=ai u2 2;have q3:=ai u2 3;have f0:=Kg w8 w.heap.size 0 _ _ u2;have f1:=Kg w8 w.heap.size 1 _ _ u2;have f2:=Kg w8 w.heap.size 2 _ _ u2;have f3:=Kg w8 w.heap.size 3 _ _ u2;clear HN2 hz8 hd8 HB2 s0 s4 hb8;refine aA (i:=4) rfl (by kernel_rfl) rfl (fun K hK=>?_);go_simp;change K _ (d7 w8 w.heap.size (.bool false) (.slice p N c) (.bool false) (.slice p8 N8 c8));refine hK _ _ (fun h=>by cases h) ?_;clear hK K q0 q1 q2 q3 f0 f1 f2 f3;try simp only[Act.put,GJ,GI,GH,GG,GL,GK]
   refine Kf 5 (r:=?_)
   try simp only[Act.put,GJ,GI,GH,GG,GL,GK]
   try simp only[Act.put,GJ,GI,GH,GG,GL,GK]
   refine aK (by kernel_rfl) ?_ _;simp only[aX];go_wp2_with fail
   (try simp only[Exit.inBlock,Exit.then])
   refine Kh (aS rfl _ _ w.heap.size _ _ (0,0) _ rfl hP.row Tryz.underlying87 rfl (by kernel_rfl)) rfl ?_;exact⟨_,t,rfl,hZ.out,by unfold Hid;rw[HR.out];exact ht.out,hB⟩
theorem wG {s:List UInt8} (h:s.head?=some 45):bO s=(m7 (b9 (s.drop 1)).1,(b9 (s.drop 1)).2):=by unfold bO;rw[if_pos h]
theorem Aa {s:List UInt8} (h:s.head?=some 43):bO s=b9 (s.drop 1):=by unfold bO;rw[if_neg (by rw[h];decide),if_pos h]
theorem o9 {s:List UInt8} (h:s.head?≠some 45) (h2:s.head?≠some 43):bO s=b9 s:=by unfold bO;rw[if_neg h,if_neg h2]
theorem xh {c d:UInt8} (h:c≠d):((c.toNat:Int) == (d.toNat:Int))=false:=by
 simp only[beq_eq_false_iff_ne,ne_eq];intro e;exact h (UInt8.toNat_inj.1 (by omega))
theorem zg (s:ByteArray):(s.extract 1 s.size).data.toList=s.data.toList.drop 1:=by
 simp;exact GU (Ji (by rw[List.length_tail];simp))
set_option maxRecDepth 100000 in
set_option maxHeartbeats 4000000 in
theorem o_ (s:ByteArray) (w:World) :
  Calls Tryz.prog 102 #[.string s] w fun e w'=>∃ v t,e=.returned (.tuple #[v,.string t])/\bV w' v (bO s.data.toList).1/\Hid (t.data.toList=(bO s.data.toList).2)/\Below w.heap.size w w':=by
 have hl:=bA w (.cells #[.bool false,.slice none 0 0,.bool false,.slice none 0 0] 87);have hsl:Hid (s.data.toList.length=s.size):=by unfold Hid;simp
 have hdt:=GF (zg s);go_enter Tryz.func102,Tryz.ntmps102;go_upto_region 1 with fail
 generalize w.alloc (.cells #[.bool false,.slice none 0 0,.bool false,.slice none 0 0] 87)=w1 at *
 have hr0:=hl.s0;have HB:=hl.below;clear hl;by_cases h0:0<s.size
 ·have hhead:=rK (l:=s.data.toList) rfl h0;by_cases h1:s[0]=45
  ·have hb45:((s[0].toNat:Int) == 45)=true:=by rw[h1];rfl
   have HR:=GF (wG (by rw[hhead,h1]));clear h1 hhead;go_wp2_with fail
   refine (lK _ w1).mono ?_;rintro e w2 ⟨v2,t,rfl,hz2,ht,hb2⟩;rw[hdt.out] at hz2 ht;obtain⟨p2,N2,c2,p3,N3,c3,rfl,hN2,hNc2,hcm2,hN3,hNc3,hcm3,hd2,hd3⟩:=hz2.parts;obtain⟨m2,hm2⟩:∃ m,m=(b9 (s.data.toList.drop 1)).1.minus:=⟨_,rfl⟩;rw[<-hm2] at hz2 |-;have hl2:=bA w2 (.cells #[.bool m2,.slice p2 N2 c2,.bool false,.slice p3 N3 c3] 87);have hb3:=hb2.trans (hl2.below.mono hb2.size);have hs0:=(hb3.block _ (ak hr0)).trans hr0;have HB3:=HB.trans (hb3.mono HB.size);have HQ:=GF (hz2.below hl2.below);have y0:=ai hl2.s0 0;have y1:=ai hl2.s0 1;have y2:=ai hl2.s0 2;have y3:=ai hl2.s0 3;clear hl2 hb2 hb3 hz2 hd2 hd3 hr0 HB hm2;have hr0:=hs0;have HB:=HB3;clear hs0 HB3;go_upto_region 3 with fail
   generalize w2.alloc (.cells #[.bool m2,.slice p2 N2 c2,.bool false,.slice p3 N3 c3] 87)=w3 at *
   go_wp2_with fail
   refine (uf _ (b9 (s.data.toList.drop 1)).1 w3 HQ.out (l3 _).sign).mono ?_;rintro e w4 ⟨v4,rfl,hz4,hb4⟩;clear y0 y1 y2 y3 HQ;obtain⟨p8,N8,c8,p9,N9,c9,rfl,hN8,hNc8,hcm8,hN9,hNc9,hcm9,hd8,hd9⟩:=hz4.parts;generalize (m7 (b9 (s.data.toList.drop 1)).1).minus=m8 at *
   have u2:=(hb4.block _ (ak hr0)).trans hr0;have HB8:=HB.trans (hb4.mono HB.size);have hP:=bj (u0:=.bool m8) (u1:=.slice p8 N8 c8) (u2:=.bool false) (u3:=.slice p9 N9 c9) u2;have hZ:=GF (hz4.puts hP u2 bU);have hB:=HB8.trans (hP.below w.heap.size (by omega));have q0:=ai u2 0;have q1:=ai u2 1;have q2:=ai u2 2;have q3:=ai u2 3;have f0:=Kg w4 w.heap.size 0 _ _ u2;have f1:=Kg w4 w.heap.size 1 _ _ u2;have f2:=Kg w4 w.heap.size 2 _ _ u2;have f3:=Kg w4 w.heap.size 3 _ _ u2;clear hz4 hd8 hd9 hr0 hb4 HB;go_wp2_with fail
   (try simp only[Exit.inBlock,Exit.then])
   change bodyPost _ _ _ _ _ (d7 w4 w.heap.size (.bool m8) (.slice p8 N8 c8) (.bool false) (.slice p9 N9 c9));refine Kh (aS rfl _ _ w.heap.size _ _ (0,0) _ rfl hP.row Tryz.underlying87 rfl (by kernel_rfl)) rfl ?_;exact⟨_,t,rfl,by rw[HR.out];exact hZ.out,by unfold Hid;rw[HR.out];exact ht.out,hB⟩
  ·have hb45:((s[0].toNat:Int) == 45)=false:=xh h1;by_cases h2:s[0]=43
   ·have hb43:((s[0].toNat:Int) == 43)=true:=by rw[h2];rfl
    have HR:=GF (Aa (by rw[hhead,h2]));clear h1 h2 hhead;go_wp2_with fail
    refine (lK _ w1).mono ?_;rintro e w2 ⟨v2,t,rfl,hz2,ht,hb2⟩;rw[hdt.out] at hz2 ht;obtain⟨p8,N8,c8,p9,N9,c9,rfl,hN8,hNc8,hcm8,hN9,hNc9,hcm9,hd8,hd9⟩:=hz2.parts;generalize (b9 (s.data.toList.drop 1)).1.minus=m8 at *
    have u2:=(hb2.block _ (ak hr0)).trans hr0;have HB8:=HB.trans (hb2.mono HB.size);have hP:=bj (u0:=.bool m8) (u1:=.slice p8 N8 c8) (u2:=.bool false) (u3:=.slice p9 N9 c9) u2;have hZ:=GF (hz2.puts hP u2 bU);have hB:=HB8.trans (hP.below w.heap.size (by omega));have q0:=ai u2 0;have q1:=ai u2 1;have q2:=ai u2 2;have q3:=ai u2 3;have f0:=Kg w2 w.heap.size 0 _ _ u2;have f1:=Kg w2 w.heap.size 1 _ _ u2;have f2:=Kg w2 w.heap.size 2 _ _ u2;have f3:=Kg w2 w.heap.size 3 _ _ u2;clear hz2 hd8 hd9 hr0 hb2 HB;go_wp2_with fail
    (try simp only[Exit.inBlock,Exit.then])
    change bodyPost _ _ _ _ _ (d7 w2 w.heap.size (.bool m8) (.slice p8 N8 c8) (.bool false) (.slice p9 N9 c9));refine Kh (aS rfl _ _ w.heap.size _ _ (0,0) _ rfl hP.row Tryz.underlying87 rfl (by kernel_rfl)) rfl ?_;exact⟨_,t,rfl,by rw[HR.out];exact hZ.out,by unfold Hid;rw[HR.out];exact ht.out,hB⟩
   ·have hb43:((s[0].toNat:Int) == 43)=false:=xh h2;have HR:=GF (o9 (s:=s.data.toList) (by rw[hhead];exact fun e=>h1 (Option.some.inj e)) (by rw[hhead];exact fun e=>h2 (Option.some.inj e)));clear h1 h2 hhead;go_wp2_with fail
    refine (lK _ w1).mono ?_;rintro e w2 ⟨v2,t,rfl,hz2,ht,hb2⟩;obtain⟨p8,N8,c8,p9,N9,c9,rfl,hN8,hNc8,hcm8,hN9,hNc9,hcm9,hd8,hd9⟩:=hz2.parts;generalize (b9 s.data.toList).1.minus=m8 at *
    have u2:=(hb2.block _ (ak hr0)).trans hr0;have HB8:=HB.trans (hb2.mono HB.size);have hP:=bj (u0:=.bool m8) (u1:=.slice p8 N8 c8) (u2:=.bool false) (u3:=.slice p9 N9 c9) u2;have hZ:=GF (hz2.puts hP u2 bU);have hB:=HB8.trans (hP.below w.heap.size (by omega));have q0:=ai u2 0;have q1:=ai u2 1;have q2:=ai u2 2;have q3:=ai u2 3;have f0:=Kg w2 w.heap.size 0 _ _ u2;have f1:=Kg w2 w.heap.size 1 _ _ u2;have f2:=Kg w2 w.heap.size 2 _ _ u2;have f3:=Kg w2 w.heap.size 3 _ _ u2;clear hz2 hd8 hd9 hr0 hb2 HB;go_wp2_with fail
    (try simp only[Exit.inBlock,Exit.then])
    change bodyPost _ _ _ _ _ (d7 w2 w.heap.size (.bool m8) (.slice p8 N8 c8) (.bool false) (.slice p9 N9 c9));refine Kh (aS rfl _ _ w.heap.size _ _ (0,0) _ rfl hP.row Tryz.underlying87 rfl (by kernel_rfl)) rfl ?_;exact⟨_,t,rfl,by rw[HR.out];exact hZ.out,by unfold Hid;rw[HR.out];exact ht.out,hB⟩
 ·have hnil:s.data.toList=[]:=Hu (by have:=hsl.out;omega);have HR:=GF (o9 (s:=s.data.toList) (by rw[hnil];exact fun e=>by cases e) (by rw[hnil];exact fun e=>by cases e));clear hnil;go_wp2_with fail
  refine (lK _ w1).mono ?_;rintro e w2 ⟨v2,t,rfl,hz2,ht,hb2⟩;obtain⟨p8,N8,c8,p9,N9,c9,rfl,hN8,hNc8,hcm8,hN9,hNc9,hcm9,hd8,hd9⟩:=hz2.parts;generalize (b9 s.data.toList).1.minus=m8 at *
  have u2:=(hb2.block _ (ak hr0)).trans hr0;have HB8:=HB.trans (hb2.mono HB.size);have hP:=bj (u0:=.bool m8) (u1:=.slice p8 N8 c8) (u2:=.bool false) (u3:=.slice p9 N9 c9) u2;have hZ:=GF (hz2.puts hP u2 bU);have hB:=HB8.trans (hP.below w.heap.size (by omega));have q0:=ai u2 0;have q1:=ai u2 1;have q2:=ai u2 2;have q3:=ai u2 3;have f0:=Kg w2 w.heap.size 0 _ _ u2;have f1:=Kg w2 w.heap.size 1 _ _ u2;have f2:=Kg w2 w.heap.size 2 _ _ u2;have f3:=Kg w2 w.heap.size 3 _ _ u2;clear hz2 hd8 hd9 hr0 hb2 HB;go_wp2_with fail
  (try simp only[Exit.inBlock,Exit.then])
  change bodyPost _ _ _ _ _ (d7 w2 w.heap.size (.bool m8) (.slice p8 N8 c8) (.bool false) (.slice p9 N9 c9));refine Kh (aS rfl _ _ w.heap.size _ _ (0,0) _ rfl hP.row Tryz.underlying87 rfl (by kernel_rfl)) rfl ?_;exact⟨_,t,rfl,by rw[HR.out];exact hZ.out,by unfold Hid;rw[HR.out];exact ht.out,hB⟩
end Go.Proofs.YtmakbmhlemhgeaaGreatDoor
