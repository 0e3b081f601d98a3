/- Lemmas of this claim. -/
import Derived.Test.YtbnkpcfjechfiaaGreatDoorQRT5
set_option linter.all false
namespace Go.Proofs.YtbnkpcfjechfiaaGreatDoor
open Go.RowKit Dg Dc
theorem qE {n e m:Nat} (hm:m=501) (he:e≤4*m) (h:n<10 ^ e):bf n:=by
 unfold bf
 have h2:10 ^ e≤RR ^ m:=by
  rw[uU];exact Fs (by omega) he
 have:=aS aD (Fe h h2);omega
theorem kB (s:List UInt8):bf (de s).1:=by
 have h1:=fM _ (gW s 2001);have h2:(s.take (dx s 2001)).length≤2001:=by rw[FA];have:=(d8 s 2001).1;omega
 have h3:aR (s.take (dx s 2001))<_:=h1;exact qE (m:=501) rfl (by omega) h3
theorem Bn (s:List UInt8):(de s).2.length=s.length-dx s 2001∧dx s 2001≤s.length:=⟨by unfold de;simp,(d8 s 2001).2⟩
theorem qI {t:ByteArray}{l:List UInt8} (h:t.data.toList=l) (h0:0<t.size):l.head?=some (t[0]'h0):=by
 subst h;rw[List.head?_eq_getElem?,Fr (by simpa using h0)];rfl
theorem yG {s:List UInt8} (h:dx s 2001=0):bZ s=(⟨false,1,1⟩,s):=by unfold bZ;rw[if_pos h]
theorem kj {s:List UInt8} (h:dx s 2001≠0) (h2:¬ ((de s).2.head?=some 47∧(de ((de s).2.drop 1)).1≠0)):bZ s=(⟨false,(de s).1,1⟩,(de s).2):=by unfold bZ;rw[if_neg h,if_neg h2]
theorem yH {s:List UInt8} (h:dx s 2001≠0) (h2:(de s).2.head?=some 47∧(de ((de s).2.drop 1)).1≠0):bZ s=(di false (de s).1 (de ((de s).2.drop 1)).1,(de ((de s).2.drop 1)).2):=by unfold bZ;rw[if_neg h,if_pos h2]
set_option maxRecDepth 100000 in
set_option maxHeartbeats 4000000 in
theorem kR (s:ByteArray) (w:World) :
  Calls Tryz.prog 173 #[.string s] w fun e w'=>∃ v t,e=.returned (.tuple #[v,.string t])∧dq w' v (bZ s.data.toList).1∧Hid (t.data.toList=(bZ s.data.toList).2)∧Below w.heap.size w w':=by
 have hl:=aT w (.cells #[.bool false,.slice none 0 0,.bool false,.slice none 0 0] 78);have hsl:Hid (s.data.toList.length=s.size):=by unfold Hid;simp
 have hrl:=E5 (Bn s.data.toList);go_enter Tryz.func173,Tryz.ntmps173;go_upto_region 1 with fail
 generalize w.alloc (.cells #[.bool false,.slice none 0 0,.bool false,.slice none 0 0] 78)=w1 at *
 go_wp2_with fail
 refine (nQ s w1).mono ?_;rintro e w2 ⟨v2,t,rfl,hz2,ht,hb2⟩;obtain⟨p,N,c,rfl,hN,hNc,hcm,hd2⟩:=hz2.nat;have hl2:=aT w2 (.cells #[.bool false,.slice p N c] 76);have hb3:=hb2.trans (hl2.below.mono hb2.size);have HB:=hl.below.trans (hb3.mono hl.below.size);have hr0:=(hb3.block _ (ag hl.s0)).trans hl.s0;have hr4:=hl2.s0;have HN:=E5 (hd2.below hl2.below);have htl:Hid (t.data.toList.length=t.size):=by unfold Hid;simp
 clear hl hl2 hb2 hb3 hz2 hd2;go_upto_region 2 with fail
 generalize w2.alloc (.cells #[.bool false,.slice p N c] 76)=w3 at *
 generalize w2.heap.size=g4 at *
 have hts:Hid (t.size=s.size-dx s.data.toList 2001∧dx s.data.toList 2001≤s.size):=by
  have h1:=hrl.out;rw[←ht.out,htl.out,hsl.out] at h1;exact h1
 by_cases h0:dx s.data.toList 2001=0
 ·have heq:((t.size:Int) == (s.size:Int))=true:=by have:=hts.out;simp;omega
  have HR:=E5 (yG h0);clear h0 hr4;go_wp2_with fail
  refine (kT 1 (by omega) w3).mono ?_;rintro e w8 ⟨v8,rfl,hz8,hb8⟩;obtain⟨p8,N8,c8,p9,N9,c9,rfl,hN8,hNc8,hcm8,hN9,hNc9,hcm9,hd8,hd9⟩:=hz8.parts;have u2:=(hb8.block _ (ag hr0)).trans hr0;have HB8:=HB.trans (hb8.mono HB.size);have hP:=aY (u0:=.bool false) (u1:=.slice p8 N8 c8) (u2:=.bool false) (u3:=.slice p9 N9 c9) u2
  have hZ:Hid (dq (dX w8 w.heap.size (.bool false) (.slice p8 N8 c8) (.bool false) (.slice p9 N9 c9)) (.agg #[.bool false,.slice p8 N8 c8,.bool false,.slice p9 N9 c9]) (bZ s.data.toList).1):=by
   rw[HR.out];exact hz8.puts hP u2 bF
  have hB:=HB8.trans (hP.below w.heap.size (by omega));have q0:=aa u2 0;have q1:=aa u2 1;have q2:=aa u2 2;have q3:=aa u2 3;have f0:=frozen_of_row w8 w.heap.size 0 _ _ u2;have f1:=frozen_of_row w8 w.heap.size 1 _ _ u2;have f2:=frozen_of_row w8 w.heap.size 2 _ _ u2;have f3:=frozen_of_row w8 w.heap.size 3 _ _ u2;clear HN hz8 hd8 hd9 hr0 hb8;go_wp2_with fail
  (try simp only[Exit.inBlock,Exit.then])
  change bodyPost _ _ _ _ _ (dX w8 w.heap.size (.bool false) (.slice p8 N8 c8) (.bool false) (.slice p9 N9 c9));refine bodyPost_ret (aF rfl _ _ w.heap.size _ _ (0,0) _ rfl hP.row Tryz.underlying78 rfl (by kernel_rfl)) rfl ?_;exact⟨_,s,rfl,hZ.out,by unfold Hid;rw[HR.out],hB⟩
 ·have heq:((t.size:Int) == (s.size:Int))=false:=by have:=hts.out;simp;omega
  by_cases h1:0<t.size
  ·by_cases h2:t[0]=47
   ·have hb47:((t[0].toNat:Int) == 47)=true:=by rw[h2];rfl
    have hhead:=qI ht.out h1;rw[h2] at hhead;have H2:=E5 h2;clear h2;go_wp2_with fail
    have htx:Hid ((t.extract 1 t.size).data.toList=t.data.toList.drop 1):=by
     unfold Hid;simp;exact Fi (Ho (by rw[List.length_tail,htl.out]))
    refine (nQ _ w3).mono ?_;rintro e w5 ⟨v5,t5,rfl,hz5,ht5,hb5⟩;rw[htx.out,ht.out] at hz5 ht5;obtain⟨p5,N5,c5,rfl,hN5,hNc5,hcm5,hd5⟩:=hz5.nat;have hl5:=aT w5 (.cells #[.bool false,.slice p5 N5 c5] 76);have hb6:=hb5.trans (hl5.below.mono hb5.size);have hs0:=(hb6.block _ (ag hr0)).trans hr0;have hs4:=(hb6.block _ (ag hr4)).trans hr4;have HB6:=HB.trans (hb6.mono HB.size);have hr6:=hl5.s0;have HN6:=E5 (HN.out.below hb6);have HD6:=E5 (hd5.below hl5.below);clear hl5 hb5 hb6 hz5 hd5 hr0 hr4 HN HB;have hr0:=hs0;have hr4:=hs4;have HN:=HN6;have HB:=HB6;clear hs0 hs4 HN6 HB6;go_upto_region 6 with fail
    generalize w5.alloc (.cells #[.bool false,.slice p5 N5 c5] 76)=w6 at *
    generalize w5.heap.size=g6 at *
    have q1:=aa hr6 1;by_cases hN0:N5=0
    ·have hz0:=(eG HD6.out).1 hN0;have HR:=E5 (kj h0 (fun h=>h.2 hz0));subst hN0;clear hz0 hhead hr6 HD6;go_upto_region 8 with fail
     have hbd:Below w6.heap.size w6 w6.drew:=(Below.refl _ _).drew;have s0:=(hbd.block _ (ag hr0)).trans hr0;have s4:=(hbd.block _ (ag hr4)).trans hr4;have HB2:=HB.trans (hbd.mono HB.size);have HN2:=E5 (HN.out.below hbd);have hS:(fun wx:World=>wx.cell? ⟨g4,0,none⟩=some (.bool false)∧wx.cell? ⟨g4,1,none⟩=some (.slice p N c)) w6.drew:=⟨aa s4 0,aa s4 1⟩;refine wp_mono (av (Q:=aN _) (fun wx:World=>wx.cell? ⟨g4,0,none⟩=some (.bool false)∧wx.cell? ⟨g4,1,none⟩=some (.slice p N c)) (fun i=>i == 4) (by kernel_rfl) ?_) (fun _ _ _ h=>aU h);clear hbd hr0 hr4 HB HN;generalize w6.drew=w7 at *
     refine ax (i:=0) (v:=?vvT3) rfl (by kernel_rfl) (fun _ _ _ h=>h) rfl hS ?hyT3 ?restT3
     case hyT3 =>
      intro wy hy;obtain⟨e0,e1⟩:=hy;go_simp;try with_reducible rfl
     try simp only[Act.put,E9,E8,E7,E6,Fa,E_]
     refine ai (i:=3) (v:=?vv1) rfl (by kernel_rfl) (fun _ _ _ h=>h) rfl ?hy1 ?rest1;case hy1=>(intro wy;go_simp;try with_reducible rfl)
     try simp only[Act.put,E9,E8,E7,E6,Fa,E_]
     refine au (i:=1) rfl (by kernel_rfl) rfl (fun K hK=>?_);go_simp;refine (iP 1 (by omega) w7).mono ?_;rintro e w8 ⟨v8,rfl,hz8,hb8⟩;obtain⟨p8,N8,c8,rfl,hN8,hNc8,hcm8,hd8⟩:=hz8.nat;have hlt4:=ag s4;refine hK _ _ (fun _ hs=>⟨(hb8.cell (p:=⟨_,_,none⟩) hlt4).trans hs.1,(hb8.cell (p:=⟨_,_,none⟩) hlt4).trans hs.2⟩) ?_;clear hK K hS;try simp only[Act.put,E9,E8,E7,E6,Fa,E_]
     refine ai (i:=2) (v:=?vv2) rfl (by kernel_rfl) (fun _ _ _ h=>h) rfl ?hy2 ?rest2;case hy2=>(intro wy;go_simp;try with_reducible rfl)
     try simp only[Act.put,E9,E8,E7,E6,Fa,E_]
     have u2:=(hb8.block _ (ag s0)).trans s0;have HB8:=HB2.trans (hb8.mono HB2.size);have hP:=aY (u0:=.bool false) (u1:=.slice p N c) (u2:=.bool false) (u3:=.slice p8 N8 c8) u2
     have hZ:Hid (dq (dX w8 w.heap.size (.bool false) (.slice p N c) (.bool false) (.slice p8 N8 c8)) (.agg #[.bool false,.slice p N c,.bool false,.slice p8 N8 c8]) (bZ s.data.toList).1):=by
      rw[HR.out];exact⟨_,_,rfl,hP.isI u2 bF (HN2.out.below hb8),hP.isI u2 bF hd8⟩
     have hB:=HB8.trans (hP.below w.heap.size (by omega));have q0:=aa u2 0;have q1:=aa u2 1;have q2:=aa u2 2;have q3:=aa u2 3;have f0:=frozen_of_row w8 w.heap.size 0 _ _ u2;have f1:=frozen_of_row w8 w.heap.size 1 _ _ u2;have f2:=frozen_of_row w8 w.heap.size 2 _ _ u2;have f3:=frozen_of_row w8 w.heap.size 3 _ _ u2;clear HN2 hz8 hd8 HB2 s0 s4 hb8;refine au (i:=4) rfl (by kernel_rfl) rfl (fun K hK=>?_);go_simp;change K _ (dX w8 w.heap.size (.bool false) (.slice p N c) (.bool false) (.slice p8 N8 c8));refine hK _ _ (fun h=>by cases h) ?_;clear hK K q0 q1 q2 q3 f0 f1 f2 f3;try simp only[Act.put,E9,E8,E7,E6,Fa,E_]
     refine ai (i:=5) (v:=?vv3) rfl (by kernel_rfl) (fun _ _ _ h=>h) rfl ?hy3 ?rest3;case hy3=>(intro wy;go_simp;try with_reducible rfl)
     try simp only[Act.put,E9,E8,E7,E6,Fa,E_]
     try simp only[Act.put,E9,E8,E7,E6,Fa,E_]
     refine aG (by kernel_rfl) ?_ _;simp only[aN];go_wp2_with fail
     (try simp only[Exit.inBlock,Exit.then])
     refine bodyPost_ret (aF rfl _ _ w.heap.size _ _ (0,0) _ rfl hP.row Tryz.underlying78 rfl (by kernel_rfl)) rfl ?_;exact⟨_,t,rfl,hZ.out,by unfold Hid;rw[HR.out];exact ht.out,hB⟩
    ·have hz0:(de ((de s.data.toList).2.drop 1)).1≠0:=fun h=>hN0 ((eG HD6.out).2 h);have HR:=E5 (yH h0 ⟨hhead,hz0⟩);have hNp:0<N5:=by omega
     have q6:=aa hr6 0;have y0:=aa hr4 0;have y1:=aa hr4 1;have HZ0:=E5 hz0;clear hhead hN0 hz0;go_wp2_with fail
     refine (CS _ _ _ _ w6 (iD HN.out) (iD HD6.out) (GC HZ0.out) (kB _) (kB _)).mono ?_;rintro e w8 ⟨v8,rfl,hz8,hb8⟩;rw[←show (bZ s.data.toList).1=di false (de s.data.toList).1 (de ((de s.data.toList).2.drop 1)).1 by rw[HR.out]] at hz8;obtain⟨p8,N8,c8,p9,N9,c9,rfl,hN8,hNc8,hcm8,hN9,hNc9,hcm9,hd8,hd9⟩:=hz8.parts;generalize (bZ s.data.toList).1.minus=m8 at *
     have u2:=(hb8.block _ (ag hr0)).trans hr0;have HB8:=HB.trans (hb8.mono HB.size);have hP:=aY (u0:=.bool m8) (u1:=.slice p8 N8 c8) (u2:=.bool false) (u3:=.slice p9 N9 c9) u2;have hZ:=E5 (hz8.puts hP u2 bF);have hB:=HB8.trans (hP.below w.heap.size (by omega));have q0:=aa u2 0;have q1:=aa u2 1;have q2:=aa u2 2;have q3:=aa u2 3;have f0:=frozen_of_row w8 w.heap.size 0 _ _ u2;have f1:=frozen_of_row w8 w.heap.size 1 _ _ u2;have f2:=frozen_of_row w8 w.heap.size 2 _ _ u2;have f3:=frozen_of_row w8 w.heap.size 3 _ _ u2;clear HN HD6 hz8 hd8 hd9 hr0 hr4 hr6 hb8 q6 y0 y1;go_wp2_with fail
     (try simp only[Exit.inBlock,Exit.then])
     change bodyPost _ _ _ _ _ (dX w8 w.heap.size (.bool m8) (.slice p8 N8 c8) (.bool false) (.slice p9 N9 c9));refine bodyPost_ret (aF rfl _ _ w.heap.size _ _ (0,0) _ rfl hP.row Tryz.underlying78 rfl (by kernel_rfl)) rfl ?_;exact⟨_,t5,rfl,hZ.out,by unfold Hid;rw[HR.out];exact ht5.out,hB⟩
   ·have hb47:((t[0].toNat:Int) == 47)=false:=by
     simp only[beq_eq_false_iff_ne,ne_eq];intro e;exact h2 (UInt8.toNat_inj.1 (by have h7:t[0].toNat=47:=(by omega);rw[h7];rfl))
    have HR:=E5 (kj h0 (fun h=>by have:=qI ht.out h1;rw[this] at h;exact h2 (Option.some.inj h.1)));clear h2;go_upto_region 8 with fail
    have hbd:Below w3.heap.size w3 w3.drew:=(Below.refl _ _).drew;have s0:=(hbd.block _ (ag hr0)).trans hr0;have s4:=(hbd.block _ (ag hr4)).trans hr4;have HB2:=HB.trans (hbd.mono HB.size);have HN2:=E5 (HN.out.below hbd);have hS:(fun wx:World=>wx.cell? ⟨g4,0,none⟩=some (.bool false)∧wx.cell? ⟨g4,1,none⟩=some (.slice p N c)) w3.drew:=⟨aa s4 0,aa s4 1⟩;refine wp_mono (av (Q:=aN _) (fun wx:World=>wx.cell? ⟨g4,0,none⟩=some (.bool false)∧wx.cell? ⟨g4,1,none⟩=some (.slice p N c)) (fun i=>i == 4) (by kernel_rfl) ?_) (fun _ _ _ h=>aU h);clear hbd hr0 hr4 HB HN;generalize w3.drew=w7 at *
    refine ax (i:=0) (v:=?vvT1) rfl (by kernel_rfl) (fun _ _ _ h=>h) rfl hS ?hyT1 ?restT1
    case hyT1 =>
     intro wy hy;obtain⟨e0,e1⟩:=hy;go_simp;try with_reducible rfl
    try simp only[Act.put,E9,E8,E7,E6,Fa,E_]
    refine ai (i:=3) (v:=?vv4) rfl (by kernel_rfl) (fun _ _ _ h=>h) rfl ?hy4 ?rest4;case hy4=>(intro wy;go_simp;try with_reducible rfl)
    try simp only[Act.put,E9,E8,E7,E6,Fa,E_]
    refine au (i:=1) rfl (by kernel_rfl) rfl (fun K hK=>?_);go_simp;refine (iP 1 (by omega) w7).mono ?_;rintro e w8 ⟨v8,rfl,hz8,hb8⟩;obtain⟨p8,N8,c8,rfl,hN8,hNc8,hcm8,hd8⟩:=hz8.nat;have hlt4:=ag s4;refine hK _ _ (fun _ hs=>⟨(hb8.cell (p:=⟨_,_,none⟩) hlt4).trans hs.1,(hb8.cell (p:=⟨_,_,none⟩) hlt4).trans hs.2⟩) ?_;clear hK K hS;try simp only[Act.put,E9,E8,E7,E6,Fa,E_]
    refine ai (i:=2) (v:=?vv5) rfl (by kernel_rfl) (fun _ _ _ h=>h) rfl ?hy5 ?rest5;case hy5=>(intro wy;go_simp;try with_reducible rfl)
    try simp only[Act.put,E9,E8,E7,E6,Fa,E_]
    have u2:=(hb8.block _ (ag s0)).trans s0;have HB8:=HB2.trans (hb8.mono HB2.size);have hP:=aY (u0:=.bool false) (u1:=.slice p N c) (u2:=.bool false) (u3:=.slice p8 N8 c8) u2
    have hZ:Hid (dq (dX w8 w.heap.size (.bool false) (.slice p N c) (.bool false) (.slice p8 N8 c8)) (.agg #[.bool false,.slice p N c,.bool false,.slice p8 N8 c8]) (bZ s.data.toList).1):=by
     rw[HR.out];exact⟨_,_,rfl,hP.isI u2 bF (HN2.out.below hb8),hP.isI u2 bF hd8⟩
    have hB:=HB8.trans (hP.below w.heap.size (by omega));have q0:=aa u2 0;have q1:=aa u2 1;have q2:=aa u2 2;have q3:=aa u2 3;have f0:=frozen_of_row w8 w.heap.size 0 _ _ u2;have f1:=frozen_of_row w8 w.heap.size 1 _ _ u2;have f2:=frozen_of_row w8 w.heap.size 2 _ _ u2;have f3:=frozen_of_row w8 w.heap.size 3 _ _ u2;clear HN2 hz8 hd8 HB2 s0 s4 hb8;refine au (i:=4) rfl (by kernel_rfl) rfl (fun K hK=>?_);go_simp;change K _ (dX w8 w.heap.size (.bool false) (.slice p N c) (.bool false) (.slice p8 N8 c8));refine hK _ _ (fun h=>by cases h) ?_;clear hK K q0 q1 q2 q3 f0 f1 f2 f3;try simp only[Act.put,E9,E8,E7,E6,Fa,E_]
    refine ai (i:=5) (v:=?vv6) rfl (by kernel_rfl) (fun _ _ _ h=>h) rfl ?hy6 ?rest6;case hy6=>(intro wy;go_simp;try with_reducible rfl)
    try simp only[Act.put,E9,E8,E7,E6,Fa,E_]
    try simp only[Act.put,E9,E8,E7,E6,Fa,E_]
    refine aG (by kernel_rfl) ?_ _;simp only[aN];go_wp2_with fail
    (try simp only[Exit.inBlock,Exit.then])
    refine bodyPost_ret (aF rfl _ _ w.heap.size _ _ (0,0) _ rfl hP.row Tryz.underlying78 rfl (by kernel_rfl)) rfl ?_;exact⟨_,t,rfl,hZ.out,by unfold Hid;rw[HR.out];exact ht.out,hB⟩
  ·have HR:=E5 (kj h0 (fun h=>by
    have h3:(de s.data.toList).2=[]:=by
     rw[←ht.out];exact FS (by have:=htl.out;omega)
    rw[h3] at h;cases h.1))
   go_upto_region 8 with fail
   have hbd:Below w3.heap.size w3 w3.drew:=(Below.refl _ _).drew;have s0:=(hbd.block _ (ag hr0)).trans hr0;have s4:=(hbd.block _ (ag hr4)).trans hr4;have HB2:=HB.trans (hbd.mono HB.size);have HN2:=E5 (HN.out.below hbd);have hS:(fun wx:World=>wx.cell? ⟨g4,0,none⟩=some (.bool false)∧wx.cell? ⟨g4,1,none⟩=some (.slice p N c)) w3.drew:=⟨aa s4 0,aa s4 1⟩;refine wp_mono (av (Q:=aN _) (fun wx:World=>wx.cell? ⟨g4,0,none⟩=some (.bool false)∧wx.cell? ⟨g4,1,none⟩=some (.slice p N c)) (fun i=>i == 4) (by kernel_rfl) ?_) (fun _ _ _ h=>aU h);clear hbd hr0 hr4 HB HN;generalize w3.drew=w7 at *
   refine ax (i:=0) (v:=?vvT2) rfl (by kernel_rfl) (fun _ _ _ h=>h) rfl hS ?hyT2 ?restT2
   case hyT2 =>
    intro wy hy;obtain⟨e0,e1⟩:=hy;go_simp;try with_reducible rfl
   try simp only[Act.put,E9,E8,E7,E6,Fa,E_]
   refine ai (i:=3) (v:=?vv7) rfl (by kernel_rfl) (fun _ _ _ h=>h) rfl ?hy7 ?rest7;case hy7=>(intro wy;go_simp;try with_reducible rfl)
   try simp only[Act.put,E9,E8,E7,E6,Fa,E_]
   refine au (i:=1) rfl (by kernel_rfl) rfl (fun K hK=>?_);go_simp;refine (iP 1 (by omega) w7).mono ?_;rintro e w8 ⟨v8,rfl,hz8,hb8⟩;obtain⟨p8,N8,c8,rfl,hN8,hNc8,hcm8,hd8⟩:=hz8.nat;have hlt4:=ag s4;refine hK _ _ (fun _ hs=>⟨(hb8.cell (p:=⟨_,_,none⟩) hlt4).trans hs.1,(hb8.cell (p:=⟨_,_,none⟩) hlt4).trans hs.2⟩) ?_;clear hK K hS;try simp only[Act.put,E9,E8,E7,E6,Fa,E_]
   refine ai (i:=2) (v:=?vv8) rfl (by kernel_rfl) (fun _ _ _ h=>h) rfl ?hy8 ?rest8;case hy8=>(intro wy;go_simp;try with_reducible rfl)
   try simp only[Act.put,E9,E8,E7,E6,Fa,E_]
   have u2:=(hb8.block _ (ag s0)).trans s0;have HB8:=HB2.trans (hb8.mono HB2.size);have hP:=aY (u0:=.bool false) (u1:=.slice p N c) (u2:=.bool false) (u3:=.slice p8 N8 c8) u2
   have hZ:Hid (dq (dX w8 w.heap.size (.bool false) (.slice p N c) (.bool false) (.slice p8 N8 c8)) (.agg #[.bool false,.slice p N c,.bool false,.slice p8 N8 c8]) (bZ s.data.toList).1):=by
    rw[HR.out];exact⟨_,_,rfl,hP.isI u2 bF (HN2.out.below hb8),hP.isI u2 bF hd8⟩
   have hB:=HB8.trans (hP.below w.heap.size (by omega));have q0:=aa u2 0;have q1:=aa u2 1;have q2:=aa u2 2;have q3:=aa u2 3;have f0:=frozen_of_row w8 w.heap.size 0 _ _ u2;have f1:=frozen_of_row w8 w.heap.size 1 _ _ u2;have f2:=frozen_of_row w8 w.heap.size 2 _ _ u2;have f3:=frozen_of_row w8 w.heap.size 3 _ _ u2;clear HN2 hz8 hd8 HB2 s0 s4 hb8;refine au (i:=4) rfl (by kernel_rfl) rfl (fun K hK=>?_);go_simp;change K _ (dX w8 w.heap.size (.bool false) (.slice p N c) (.bool false) (.slice p8 N8 c8));refine hK _ _ (fun h=>by cases h) ?_;clear hK K q0 q1 q2 q3 f0 f1 f2 f3;try simp only[Act.put,E9,E8,E7,E6,Fa,E_]
   refine ai (i:=5) (v:=?vv9) rfl (by kernel_rfl) (fun _ _ _ h=>h) rfl ?hy9 ?rest9;case hy9=>(intro wy;go_simp;try with_reducible rfl)
   try simp only[Act.put,E9,E8,E7,E6,Fa,E_]
   try simp only[Act.put,E9,E8,E7,E6,Fa,E_]
   refine aG (by kernel_rfl) ?_ _;simp only[aN];go_wp2_with fail
   (try simp only[Exit.inBlock,Exit.then])
   refine bodyPost_ret (aF rfl _ _ w.heap.size _ _ (0,0) _ rfl hP.row Tryz.underlying78 rfl (by kernel_rfl)) rfl ?_;exact⟨_,t,rfl,hZ.out,by unfold Hid;rw[HR.out];exact ht.out,hB⟩
theorem vv {s:List UInt8} (h:s.head?=some 45):bO s=(ra (bZ (s.drop 1)).1,(bZ (s.drop 1)).2):=by unfold bO;rw[if_pos h]
theorem yU {s:List UInt8} (h:s.head?=some 43):bO s=bZ (s.drop 1):=by unfold bO;rw[if_neg (by rw[h];decide),if_pos h]
theorem og {s:List UInt8} (h:s.head?≠some 45) (h2:s.head?≠some 43):bO s=bZ s:=by unfold bO;rw[if_neg h,if_neg h2]
theorem vR {c d:UInt8} (h:c≠d):((c.toNat:Int) == (d.toNat:Int))=false:=by
 simp only[beq_eq_false_iff_ne,ne_eq];intro e;exact h (UInt8.toNat_inj.1 (by omega))
theorem xU (s:ByteArray):(s.extract 1 s.size).data.toList=s.data.toList.drop 1:=by
 simp;exact Fi (Ho (by rw[List.length_tail];simp))
set_option maxRecDepth 100000 in
set_option maxHeartbeats 4000000 in
theorem oh (s:ByteArray) (w:World) :
  Calls Tryz.prog 117 #[.string s] w fun e w'=>∃ v t,e=.returned (.tuple #[v,.string t])∧dq w' v (bO s.data.toList).1∧Hid (t.data.toList=(bO s.data.toList).2)∧Below w.heap.size w w':=by
 have hl:=aT w (.cells #[.bool false,.slice none 0 0,.bool false,.slice none 0 0] 78);have hsl:Hid (s.data.toList.length=s.size):=by unfold Hid;simp
 have hdt:=E5 (xU s);go_enter Tryz.func117,Tryz.ntmps117;go_upto_region 1 with fail
 generalize w.alloc (.cells #[.bool false,.slice none 0 0,.bool false,.slice none 0 0] 78)=w1 at *
 have hr0:=hl.s0;have HB:=hl.below;clear hl;by_cases h0:0<s.size
 ·have hhead:=qI (l:=s.data.toList) rfl h0;by_cases h1:s[0]=45
  ·have hb45:((s[0].toNat:Int) == 45)=true:=by rw[h1];rfl
   have HR:=E5 (vv (by rw[hhead,h1]));clear h1 hhead;go_wp2_with fail
   refine (kR _ w1).mono ?_;rintro e w2 ⟨v2,t,rfl,hz2,ht,hb2⟩;rw[hdt.out] at hz2 ht;obtain⟨p2,N2,c2,p3,N3,c3,rfl,hN2,hNc2,hcm2,hN3,hNc3,hcm3,hd2,hd3⟩:=hz2.parts;obtain⟨m2,hm2⟩:∃ m,m=(bZ (s.data.toList.drop 1)).1.minus:=⟨_,rfl⟩;rw[←hm2] at hz2 ⊢;have hl2:=aT w2 (.cells #[.bool m2,.slice p2 N2 c2,.bool false,.slice p3 N3 c3] 78);have hb3:=hb2.trans (hl2.below.mono hb2.size);have hs0:=(hb3.block _ (ag hr0)).trans hr0;have HB3:=HB.trans (hb3.mono HB.size);have HQ:=E5 (hz2.below hl2.below);have y0:=aa hl2.s0 0;have y1:=aa hl2.s0 1;have y2:=aa hl2.s0 2;have y3:=aa hl2.s0 3;clear hl2 hb2 hb3 hz2 hd2 hd3 hr0 HB hm2;have hr0:=hs0;have HB:=HB3;clear hs0 HB3;go_upto_region 3 with fail
   generalize w2.alloc (.cells #[.bool m2,.slice p2 N2 c2,.bool false,.slice p3 N3 c3] 78)=w3 at *
   go_wp2_with fail
   refine (Ba _ (bZ (s.data.toList.drop 1)).1 w3 HQ.out (lj _).sign).mono ?_;rintro e w4 ⟨v4,rfl,hz4,hb4⟩;clear y0 y1 y2 y3 HQ;obtain⟨p8,N8,c8,p9,N9,c9,rfl,hN8,hNc8,hcm8,hN9,hNc9,hcm9,hd8,hd9⟩:=hz4.parts;generalize (ra (bZ (s.data.toList.drop 1)).1).minus=m8 at *
   have u2:=(hb4.block _ (ag hr0)).trans hr0;have HB8:=HB.trans (hb4.mono HB.size);have hP:=aY (u0:=.bool m8) (u1:=.slice p8 N8 c8) (u2:=.bool false) (u3:=.slice p9 N9 c9) u2;have hZ:=E5 (hz4.puts hP u2 bF);have hB:=HB8.trans (hP.below w.heap.size (by omega));have q0:=aa u2 0;have q1:=aa u2 1;have q2:=aa u2 2;have q3:=aa u2 3;have f0:=frozen_of_row w4 w.heap.size 0 _ _ u2;have f1:=frozen_of_row w4 w.heap.size 1 _ _ u2;have f2:=frozen_of_row w4 w.heap.size 2 _ _ u2;have f3:=frozen_of_row w4 w.heap.size 3 _ _ u2;clear hz4 hd8 hd9 hr0 hb4 HB;go_wp2_with fail
   (try simp only[Exit.inBlock,Exit.then])
   change bodyPost _ _ _ _ _ (dX w4 w.heap.size (.bool m8) (.slice p8 N8 c8) (.bool false) (.slice p9 N9 c9));refine bodyPost_ret (aF rfl _ _ w.heap.size _ _ (0,0) _ rfl hP.row Tryz.underlying78 rfl (by kernel_rfl)) rfl ?_;exact⟨_,t,rfl,by rw[HR.out];exact hZ.out,by unfold Hid;rw[HR.out];exact ht.out,hB⟩
  ·have hb45:((s[0].toNat:Int) == 45)=false:=vR h1;by_cases h2:s[0]=43
   ·have hb43:((s[0].toNat:Int) == 43)=true:=by rw[h2];rfl
    have HR:=E5 (yU (by rw[hhead,h2]));clear h1 h2 hhead;go_wp2_with fail
    refine (kR _ w1).mono ?_;rintro e w2 ⟨v2,t,rfl,hz2,ht,hb2⟩;rw[hdt.out] at hz2 ht;obtain⟨p8,N8,c8,p9,N9,c9,rfl,hN8,hNc8,hcm8,hN9,hNc9,hcm9,hd8,hd9⟩:=hz2.parts;generalize (bZ (s.data.toList.drop 1)).1.minus=m8 at *
    have u2:=(hb2.block _ (ag hr0)).trans hr0;have HB8:=HB.trans (hb2.mono HB.size);have hP:=aY (u0:=.bool m8) (u1:=.slice p8 N8 c8) (u2:=.bool false) (u3:=.slice p9 N9 c9) u2;have hZ:=E5 (hz2.puts hP u2 bF);have hB:=HB8.trans (hP.below w.heap.size (by omega));have q0:=aa u2 0;have q1:=aa u2 1;have q2:=aa u2 2;have q3:=aa u2 3;have f0:=frozen_of_row w2 w.heap.size 0 _ _ u2;have f1:=frozen_of_row w2 w.heap.size 1 _ _ u2;have f2:=frozen_of_row w2 w.heap.size 2 _ _ u2;have f3:=frozen_of_row w2 w.heap.size 3 _ _ u2;clear hz2 hd8 hd9 hr0 hb2 HB;go_wp2_with fail
    (try simp only[Exit.inBlock,Exit.then])
    change bodyPost _ _ _ _ _ (dX w2 w.heap.size (.bool m8) (.slice p8 N8 c8) (.bool false) (.slice p9 N9 c9));refine bodyPost_ret (aF rfl _ _ w.heap.size _ _ (0,0) _ rfl hP.row Tryz.underlying78 rfl (by kernel_rfl)) rfl ?_;exact⟨_,t,rfl,by rw[HR.out];exact hZ.out,by unfold Hid;rw[HR.out];exact ht.out,hB⟩
   ·have hb43:((s[0].toNat:Int) == 43)=false:=vR h2;have HR:=E5 (og (s:=s.data.toList) (by rw[hhead];exact fun e=>h1 (Option.some.inj e)) (by rw[hhead];exact fun e=>h2 (Option.some.inj e)));clear h1 h2 hhead;go_wp2_with fail
    refine (kR _ w1).mono ?_;rintro e w2 ⟨v2,t,rfl,hz2,ht,hb2⟩;obtain⟨p8,N8,c8,p9,N9,c9,rfl,hN8,hNc8,hcm8,hN9,hNc9,hcm9,hd8,hd9⟩:=hz2.parts;generalize (bZ s.data.toList).1.minus=m8 at *
    have u2:=(hb2.block _ (ag hr0)).trans hr0;have HB8:=HB.trans (hb2.mono HB.size);have hP:=aY (u0:=.bool m8) (u1:=.slice p8 N8 c8) (u2:=.bool false) (u3:=.slice p9 N9 c9) u2;have hZ:=E5 (hz2.puts hP u2 bF);have hB:=HB8.trans (hP.below w.heap.size (by omega));have q0:=aa u2 0;have q1:=aa u2 1;have q2:=aa u2 2;have q3:=aa u2 3;have f0:=frozen_of_row w2 w.heap.size 0 _ _ u2;have f1:=frozen_of_row w2 w.heap.size 1 _ _ u2;have f2:=frozen_of_row w2 w.heap.size 2 _ _ u2;have f3:=frozen_of_row w2 w.heap.size 3 _ _ u2;clear hz2 hd8 hd9 hr0 hb2 HB;go_wp2_with fail
    (try simp only[Exit.inBlock,Exit.then])
    change bodyPost _ _ _ _ _ (dX w2 w.heap.size (.bool m8) (.slice p8 N8 c8) (.bool false) (.slice p9 N9 c9));refine bodyPost_ret (aF rfl _ _ w.heap.size _ _ (0,0) _ rfl hP.row Tryz.underlying78 rfl (by kernel_rfl)) rfl ?_;exact⟨_,t,rfl,by rw[HR.out];exact hZ.out,by unfold Hid;rw[HR.out];exact ht.out,hB⟩
 ·have hnil:s.data.toList=[]:=FS (by have:=hsl.out;omega);have HR:=E5 (og (s:=s.data.toList) (by rw[hnil];exact fun e=>by cases e) (by rw[hnil];exact fun e=>by cases e));clear hnil;go_wp2_with fail
  refine (kR _ w1).mono ?_;rintro e w2 ⟨v2,t,rfl,hz2,ht,hb2⟩;obtain⟨p8,N8,c8,p9,N9,c9,rfl,hN8,hNc8,hcm8,hN9,hNc9,hcm9,hd8,hd9⟩:=hz2.parts;generalize (bZ s.data.toList).1.minus=m8 at *
  have u2:=(hb2.block _ (ag hr0)).trans hr0;have HB8:=HB.trans (hb2.mono HB.size);have hP:=aY (u0:=.bool m8) (u1:=.slice p8 N8 c8) (u2:=.bool false) (u3:=.slice p9 N9 c9) u2;have hZ:=E5 (hz2.puts hP u2 bF);have hB:=HB8.trans (hP.below w.heap.size (by omega));have q0:=aa u2 0;have q1:=aa u2 1;have q2:=aa u2 2;have q3:=aa u2 3;have f0:=frozen_of_row w2 w.heap.size 0 _ _ u2;have f1:=frozen_of_row w2 w.heap.size 1 _ _ u2;have f2:=frozen_of_row w2 w.heap.size 2 _ _ u2;have f3:=frozen_of_row w2 w.heap.size 3 _ _ u2;clear hz2 hd8 hd9 hr0 hb2 HB;go_wp2_with fail
  (try simp only[Exit.inBlock,Exit.then])
  change bodyPost _ _ _ _ _ (dX w2 w.heap.size (.bool m8) (.slice p8 N8 c8) (.bool false) (.slice p9 N9 c9));refine bodyPost_ret (aF rfl _ _ w.heap.size _ _ (0,0) _ rfl hP.row Tryz.underlying78 rfl (by kernel_rfl)) rfl ?_;exact⟨_,t,rfl,by rw[HR.out];exact hZ.out,by unfold Hid;rw[HR.out];exact ht.out,hB⟩
end Go.Proofs.YtbnkpcfjechfiaaGreatDoor
