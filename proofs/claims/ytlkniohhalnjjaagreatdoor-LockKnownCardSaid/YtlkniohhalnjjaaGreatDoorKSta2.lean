/- Lemmas of this claim. -/
import Derived.Test.YtlkniohhalnjjaaGreatDoorKSmall2
import Derived.Test.YtlkniohhalnjjaaGreatDoorKSta1
set_option linter.all false
set_option maxRecDepth 100000
set_option maxHeartbeats 8000000
namespace Go.Proofs.YtlkniohhalnjjaaGreatDoor
open Go.RowKit Dc Dg
theorem iZ (w:World) (b i c j:Nat) (v:Value) (h:c≠b):(w.setCell ⟨b,i,none⟩ v).cell? ⟨c,j,none⟩=w.cell? ⟨c,j,none⟩:=by
 rw[World.cell?,World.cell?,Below.heap_setCell _ _ _ _ h]
theorem rq (gs:List Gd) (p:Option Addr) (c:Nat) (vn vb:Value) (mb N s:Nat) (f:Nat×Nat→Option Value) (w:World) (m:Nat) (v:Value) (al fl:List Int)
  (hP:bZ w m gs p c vn vb mb N s f) (hF:oo gs) (hS:aS gs=true) (hQ:eT w v al fl) :
  Calls Tryz.prog 43 #[.pointer (some ⟨m,0,none⟩),v] w (SoQ gs al fl w):=by
 obtain⟨u1,u2,rfl,hI1,hI2⟩:=hQ.at_
 obtain⟨p1,c1,rfl,hc1⟩:=hI1.at_
 obtain⟨p2,c2,rfl,hc2⟩:=hI2.at_
 obtain⟨hn1,hn3⟩:=bf hS
 have S0:=iX.new w (.slice p1 al.length c1) (.slice p2 fl.length c2)
 have P0:=hP.below S0.bl
 go_enter Tryz.func43,Tryz.ntmps43
 go_upto_region 2 with fail
 generalize (((w.alloc (.cells #[.slice p1 al.length c1,.slice p2 fl.length c2] 36)).alloc (.cells #[.int .i64 0,.int .i64 0,.int .i64 0,.int .i64 0,.int .i64 0,.int .i64 0] 71)).alloc (.cells #[.int .i64 0,.int .i64 0,.int .i64 0,.int .i64 0,.int .i64 0,.int .i64 0] 71))=w3 at S0 P0 ⊢
 have x0:=aa S0.s 0
 have x1:=aa S0.s 1
 have m0:=P0.m0
 have HP:=uk P0
 have HP0:=uk hP
 clear P0 hP
 by_cases hz:al.length=gs.length∧fl.length=gs.length
 ·have hd1:((al.length:Int) != (gs.length:Int))=false:=by simp;omega
  have hd2:((fl.length:Int) != (gs.length:Int))=false:=by simp;omega
  have HZ:=uk hz
  clear hz
  go_quiet (fail)
  have S1:=S0.below (below_drewN (Below.refl w3.heap.size w3) nq)
  have HS1:=uk S1
  clear S0 S1 m0 x0 x1 hd1 hd2
  have x0:=aa HS1.out.s 0
  go_wp2_with fail
  clear x0
  go_loopw [37] (fun s37 wr=>∃ i:Nat,s37=.int .i64 i∧i≤al.length∧iX w wr (.slice p1 al.length c1) (.slice p2 fl.length c2) (aH al fl i)∧Hid (so gs al fl i)) (fun s37 _=>al.length-(intOf s37).toNat)
  case atStart=>exact⟨0,rfl,by omega,HS1.out,fun g hg=>by omega⟩
  case round =>
   obtain⟨i,rfl,hi,S,hup⟩:=hrel
   by_cases hil:i<al.length
   ·have hig:i<gs.length:=by rw[←HZ.out.1];exact hil
    have hif:i<fl.length:=by rw[HZ.out.2];exact hig
    have hi3:i<3:=by omega
    have hi3I:(i:Int)<3:=by omega
    obtain⟨b1,o1,rfl,hb1,hcs1⟩:=hc1 (by omega)
    obtain⟨b2,o2,rfl,hb2,hcs2⟩:=hc2 (by omega)
    obtain⟨a,ha⟩:∃ a,a=al[i]:=⟨_,rfl⟩
    obtain⟨q,hq⟩:∃ q,q=fl[i]:=⟨_,rfl⟩
    have y1:=(S.bl.cell (p:=⟨b1,o1+i,none⟩) hb1).trans (hcs1 i hil)
    have y2:=(S.bl.cell (p:=⟨b2,o2+i,none⟩) hb2).trans (hcs2 i hif)
    rw[←ha] at y1
    rw[←hq] at y2
    have hag:al[i]?.getD 0=a:=by rw[uu hil];exact ha.symm
    have hqg:fl[i]?.getD 0=q:=by rw[uu hif];exact hq.symm
    have HAG:=uk hag
    have HQG:=uk hqg
    have HY2:Hid (w.cell? ⟨b2,o2+i,none⟩=some (.int .i64 q)):=by have:=hcs2 i hif;rw[←hq] at this;exact this
    clear ha hq hag hqg hcs1 hcs2 hc1 hc2
    have HW:=HP0.out.below S.bl
    have m0:=HW.m0
    obtain⟨bg,og,e9,hbg,hG⟩:=HW.G.at_ (by omega)
    obtain⟨pr,cr,t0',t0,hR⟩:=hG i hig
    have hra:ac gs i=gs[i].rungs:=by unfold ac;rw[uu hig]
    rw[←hra] at t0
    subst e9
    have hrl:(ac gs i).length≤8:=(aI hS).r8 i hig
    have HR8:=uk (show (ad gs).rungs i=(ac gs i).length from rfl)
    have x0:=aa S.s 0
    have x1:=aa S.s 1
    have hiI:(i:Int)<(al.length:Int):=by omega
    have hifI:(i:Int)<(fl.length:Int):=by omega
    have higI:(i:Int)<(gs.length:Int):=by omega
    clear hG hra t0'
    by_cases h1:0≤a∧a≤((ac gs i).length:Int)-1
    ·obtain⟨k,rfl⟩:∃ k:Nat,a=(k:Int):=⟨a.toNat,by omega⟩
     have hk:k<(ac gs i).length:=by omega
     obtain⟨bg',og',cg',bn',on',cn',bb',ob',cb',bu',ou',cu',bv',ov',cv',br',orr',cr',hN⟩:=gR HW hig hk
     clear m0 t0
     have m0:=hN.g0;have t0:=hN.t0;have t1:=hN.t1
     have htr:=(aI hS).tries i k hig hk
     obtain⟨tt,htt⟩:∃ tt,Hid ((ad gs).tries i k=tt):=⟨_,rfl⟩
     rw[htt.out] at t1 htr
     have hT1:=uk (dK h1.1 h1.2)
     have hkl:(k:Int)<((ac gs i).length:Int):=by omega
     have H1:=uk h1
     clear h1 hN HW
     by_cases h2:0≤q∧q≤tt-1
     ·have hT2:=uk (dK h2.1 h2.2)
      have H2:=uk h2
      clear h2
      go_wp2_with fail
      go_quiet ((go_at_call 27;first | with_reducible exact aT (hT1.out _) | with_reducible exact aT (hT2.out _)))
      have S4:=S.below (below_drewN (Below.refl wr.heap.size wr) nq)
      clear S m0 t0 t1 x0 x1 y1 y2
      generalize wr.drewN nq=w4 at S4 ⊢
      go_wp2_with fail
      have hS:(fun wy:World=>wy.cell? ⟨w.heap.size,1,none⟩=some (.slice (some ⟨b2,o2,none⟩) fl.length c2)∧wy.cell? ⟨b2,o2+i,none⟩=some (.int .i64 q)) w4.drew:=by
       have S5:=S4.below (below_drewN (Below.refl w4.heap.size w4) 1)
       exact⟨aa S5.s 1,(S5.bl.cell (p:=⟨b2,o2+i,none⟩) hb2).trans HY2.out⟩
      refine ax (fun wy:World=>wy.cell? ⟨w.heap.size,1,none⟩=some (.slice (some ⟨b2,o2,none⟩) fl.length c2)∧wy.cell? ⟨b2,o2+i,none⟩=some (.int .i64 q)) (fun i=>Nat.beq i 13) (by kernel_rfl) ?_
      refine ae (i:=0) (v:=?vv1) rfl (by kernel_rfl) (fun _ _ _ h=>h) rfl ?hy1 ?rest1
      case hy1=>(intro wy;go_simp;try with_reducible rfl)
      try simp only[Act.put,ut,uq,ur,uj,um,ul]
      refine ae (i:=1) (v:=?vv2) rfl (by kernel_rfl) (fun _ _ _ h=>h) rfl ?hy2 ?rest2
      case hy2=>(intro wy;go_simp;try with_reducible rfl)
      try simp only[Act.put,ut,uq,ur,uj,um,ul]
      refine ae (i:=2) (v:=?vv3) rfl (by kernel_rfl) (fun _ _ _ h=>h) rfl ?hy3 ?rest3
      case hy3=>(intro wy;go_simp;try with_reducible rfl)
      try simp only[Act.put,ut,uq,ur,uj,um,ul]
      refine ae (i:=3) (v:=?vv4) rfl (by kernel_rfl) (fun _ _ _ h=>h) rfl ?hy4 ?rest4
      case hy4=>(intro wy;go_simp;try with_reducible rfl)
      try simp only[Act.put,ut,uq,ur,uj,um,ul]
      refine ak (i:=4) (v:=?vv5) rfl (by kernel_rfl) (fun _ _ _ h=>h) rfl hS ?hy5 ?rest5
      case hy5=>(intro wy hy;(try dsimp only at hy);go_simp;try with_reducible rfl)
      try simp only[Act.put,ut,uq,ur,uj,um,ul]
      refine ae (i:=5) (v:=?vv6) rfl (by kernel_rfl) (fun _ _ _ h=>h) rfl ?hy6 ?rest6
      case hy6=>(intro wy;go_simp;try with_reducible rfl)
      try simp only[Act.put,ut,uq,ur,uj,um,ul]
      refine ae (i:=6) (v:=?vv7) rfl (by kernel_rfl) (fun _ _ _ h=>h) rfl ?hy7 ?rest7
      case hy7=>(intro wy;go_simp;try with_reducible rfl)
      try simp only[Act.put,ut,uq,ur,uj,um,ul]
      refine ak (i:=7) (v:=?vv8) rfl (by kernel_rfl) (fun _ _ _ h=>h) rfl hS ?hy8 ?rest8
      case hy8=>(intro wy hy;(try dsimp only at hy);go_simp;try with_reducible rfl)
      try simp only[Act.put,ut,uq,ur,uj,um,ul]
      refine ae (i:=8) (v:=?vv9) rfl (by kernel_rfl) (fun _ _ _ h=>h) rfl ?hy9 ?rest9
      case hy9=>(intro wy;go_simp;try with_reducible rfl)
      try simp only[Act.put,ut,uq,ur,uj,um,ul]
      refine ae (i:=9) (v:=?vv10) rfl (by kernel_rfl) (fun _ _ _ h=>h) rfl ?hy10 ?rest10
      case hy10=>(intro wy;go_simp;try with_reducible rfl)
      try simp only[Act.put,ut,uq,ur,uj,um,ul]
      refine ae (i:=11) (v:=?vv11) rfl (by kernel_rfl) (fun _ _ _ h=>h) rfl ?hy11 ?rest11
      case hy11=>(intro wy;go_simp;try with_reducible rfl)
      try simp only[Act.put,ut,uq,ur,uj,um,ul]
      have S5:=S4.below (below_drewN (Below.refl w4.heap.size w4) 1)
      change bY _ _ _ _ _ _ _ _ _ (w4.drewN 1)
      generalize w4.drewN 1=w5 at S5 ⊢
      have f1:=S5.o.fr i
      have g1:=S5.o.a hi3
      refine an (i:=10) rfl (by kernel_rfl) rfl (fun K hK=>?_)
      go_simp
      refine hK _ _ (fun _ h=>?_) ?_
      ·have k1:=iZ w5 (w.heap.size+1+1) i w.heap.size 1 (.int .i64 k) (by omega)
       have k2:=iZ w5 (w.heap.size+1+1) i b2 (o2+i) (.int .i64 k) (by omega)
       exact⟨k1.trans h.1,k2.trans h.2⟩
      clear hK K hS f1 g1
      try simp only[Act.put,ut,uq,ur,uj,um,ul]
      refine ae (i:=12) (v:=?vv12) rfl (by kernel_rfl) (fun _ _ _ h=>h) rfl ?hy12 ?rest12
      case hy12=>(intro wy;go_simp;try with_reducible rfl)
      try simp only[Act.put,ut,uq,ur,uj,um,ul]
      have SL:=S5.o.lay1 hi3 k
      have SF:=S5.lay hi3 k q
      have f1:=SL.fr (3+i)
      have g1:=SL.f hi3
      have HSF:=uk SF
      clear SF SL
      refine an (i:=13) rfl (by kernel_rfl) rfl (fun K hK=>?_)
      go_simp
      change K _ (lL w5 (w.heap.size+1+1) i k q)
      refine hK _ _ (fun h=>by cases h) ?_
      clear hK K f1 g1
      try simp only[Act.put,ut,uq,ur,uj,um,ul]
      refine aW (by kernel_rfl) ?_ _
      have SF:=HSF.out
      generalize lL w5 (w.heap.size+1+1) i k q=w6 at SF ⊢
      go_wp2_with fail
      go_roundw
      case rel =>
       refine⟨i+1,by go_num,by omega,?_,?_⟩
       ·rw[aH,HAG.out,HQG.out];exact SF
       ·intro g hg
        by_cases hgi:g=i
        ·subst hgi
         rw[HAG.out,HQG.out,HR8.out,uP,htt.out]
         have:=H1.out
         have:=H2.out
         omega
        ·exact hup.out g (by omega)
      case measure=>simp[intOf];omega
     ·have HN:∀ z,¬ cA gs al fl z:=fun z hk=>h2 (by
       have:=hk.up hn3 i hig
       rw[HAG.out,HQG.out,uP,htt.out] at this
       omega)
      have HEND:Hid (∀ n,SoQ gs al fl w (.returned (.tuple #[.agg #[.int .i64 (aH al fl i).a0,.int .i64 (aH al fl i).a1,.int .i64 (aH al fl i).a2,.int .i64 (aH al fl i).f0,.int .i64 (aH al fl i).f1,.int .i64 (aH al fl i).f2],.bool false])) (aJ (wr.drewN n) (w.heap.size+1) (aH al fl i))):=fun n=>SoQ.no (aH al fl i) HN ((S.below (below_drewN (Below.refl wr.heap.size wr) n)).bl.trans (aO (by omega)))
      have hT2:=uk (dJ h2)
      clear h2 HN
      go_wp2_with fail
      go_quiet ((go_at_call 27;first | with_reducible exact aT (hT1.out _) | with_reducible exact aT (hT2.out _)))
      have S0:=S
      have S1:=S0.below (below_drewN (Below.refl wr.heap.size wr) nq)
      have q0:=S1.r.cell 0;have q1:=S1.r.cell 1;have q2:=S1.r.cell 2;have q3:=S1.r.cell 3;have q4:=S1.r.cell 4;have q5:=S1.r.cell 5
      have c0:=S1.o.cell 0;have c1:=S1.o.cell 1;have c2:=S1.o.cell 2;have c3:=S1.o.cell 3;have c4:=S1.o.cell 4;have c5:=S1.o.cell 5
      have f0:=S1.r.fr 0;have f1:=S1.r.fr 1;have f2:=S1.r.fr 2;have f3:=S1.r.fr 3;have f4:=S1.r.fr 4;have f5:=S1.r.fr 5
      go_wp2_with fail
      change bodyPost _ _ _ _ _ (aJ (wr.drewN nq) (w.heap.size+1) (aH al fl i))
      clear c0 c1 c2 c3 c4 c5 q0 q1 q2 q3 q4 q5 f0 f1 f2 f3 f4 f5
      have SP:=S1.r.put (aH al fl i)
      have hB:=HEND.out nq
      generalize aJ (wr.drewN nq) (w.heap.size+1) (aH al fl i)=W at SP hB ⊢
      have q0:=SP.cell 0;have q1:=SP.cell 1;have q2:=SP.cell 2;have q3:=SP.cell 3;have q4:=SP.cell 4;have q5:=SP.cell 5
      refine bodyPost_ret (v:=.tuple #[.agg #[.int .i64 ((aH al fl i)).a0,.int .i64 ((aH al fl i)).a1,.int .i64 ((aH al fl i)).a2,.int .i64 ((aH al fl i)).f0,.int .i64 ((aH al fl i)).f1,.int .i64 ((aH al fl i)).f2],.bool false]) (by simp[results,Tryz.results43,go_sem,q0,q1,q2,q3,q4,q5]) rfl hB
    ·have HN:∀ z,¬ cA gs al fl z:=fun z hk=>h1 (by
      have:=hk.up hn3 i hig
      rw[HAG.out,HR8.out] at this
      omega)
     have HEND:Hid (∀ n,SoQ gs al fl w (.returned (.tuple #[.agg #[.int .i64 (aH al fl i).a0,.int .i64 (aH al fl i).a1,.int .i64 (aH al fl i).a2,.int .i64 (aH al fl i).f0,.int .i64 (aH al fl i).f1,.int .i64 (aH al fl i).f2],.bool false])) (aJ (wr.drewN n) (w.heap.size+1) (aH al fl i))):=fun n=>SoQ.no (aH al fl i) HN ((S.below (below_drewN (Below.refl wr.heap.size wr) n)).bl.trans (aO (by omega)))
     have hT1:=uk (dJ h1)
     clear h1 HN HW
     go_wp2_with fail
     go_quiet ((go_at_call 27;with_reducible exact aT (hT1.out _)))
     have S0:=S
     have S1:=S0.below (below_drewN (Below.refl wr.heap.size wr) nq)
     have q0:=S1.r.cell 0;have q1:=S1.r.cell 1;have q2:=S1.r.cell 2;have q3:=S1.r.cell 3;have q4:=S1.r.cell 4;have q5:=S1.r.cell 5
     have c0:=S1.o.cell 0;have c1:=S1.o.cell 1;have c2:=S1.o.cell 2;have c3:=S1.o.cell 3;have c4:=S1.o.cell 4;have c5:=S1.o.cell 5
     have f0:=S1.r.fr 0;have f1:=S1.r.fr 1;have f2:=S1.r.fr 2;have f3:=S1.r.fr 3;have f4:=S1.r.fr 4;have f5:=S1.r.fr 5
     go_wp2_with fail
     change bodyPost _ _ _ _ _ (aJ (wr.drewN nq) (w.heap.size+1) (aH al fl i))
     clear c0 c1 c2 c3 c4 c5 q0 q1 q2 q3 q4 q5 f0 f1 f2 f3 f4 f5
     have SP:=S1.r.put (aH al fl i)
     have hB:=HEND.out nq
     generalize aJ (wr.drewN nq) (w.heap.size+1) (aH al fl i)=W at SP hB ⊢
     have q0:=SP.cell 0;have q1:=SP.cell 1;have q2:=SP.cell 2;have q3:=SP.cell 3;have q4:=SP.cell 4;have q5:=SP.cell 5
     refine bodyPost_ret (v:=.tuple #[.agg #[.int .i64 ((aH al fl i)).a0,.int .i64 ((aH al fl i)).a1,.int .i64 ((aH al fl i)).a2,.int .i64 ((aH al fl i)).f0,.int .i64 ((aH al fl i)).f1,.int .i64 ((aH al fl i)).f2],.bool false]) (by simp[results,Tryz.results43,go_sem,q0,q1,q2,q3,q4,q5]) rfl hB
   ·obtain⟨y,hy⟩:∃ y,y=aH al fl i:=⟨_,rfl⟩
    have hie:i=gs.length:=by rw[←HZ.out.1];omega
    have hat:(ad gs).At y:=by rw[hy,hie];exact nT hn3 (by have:=hup.out;rw[hie] at this;exact this)
    have HY:Hid (gG (ad gs) y→cA gs al fl y):=fun hh=>by
     have:=hup.out
     rw[hie] at this
     rw[hy,hie] at hh ⊢
     exact sg hn3 HZ.out.1 HZ.out.2 this hh
    have HNO:Hid (¬ gG (ad gs) y→∀ z,¬ cA gs al fl z):=fun hh z hk=>hh (by
     have:=hk.fill hn3
     rw[hy,hie,←this]
     exact hk.held)
    rw[←hy] at S
    have hiA:i=al.length:=by omega
    subst hiA
    have HS:=uk S
    clear hy hie hup S HS1 hil hc1 hc2
    have m0:=(HP0.out.below HS.out.bl).m0
    go_wp2_with fail
    clear m0
    go_loopw [92] (fun s92 wx=>∃ j:Nat,s92=.int .i64 j∧j≤gs.length∧iX w wx (.slice p1 al.length c1) (.slice p2 fl.length c2) y∧Hid (∀ g,g<j→cY (ad gs) y g=true)) (fun s92 _=>gs.length-(intOf s92).toNat)
    case atStart=>exact⟨0,rfl,by omega,HS.out,fun g hg=>by omega⟩
    case round =>
     clear HS
     obtain⟨j,rfl,hj,S,hheld⟩:=hrel
     by_cases hjl:j<gs.length
     ·have hj3:j<3:=by omega
      have c0:=S.o.cell 0;have c1:=S.o.cell 1;have c2:=S.o.cell 2
      go_wp2_with fail
      refine (sR gs p c vn vb mb N s f _ m y j (HP0.out.below S.bl) hF hS hat hjl).mono ?_
      rintro e w5 ⟨rfl,hb5⟩
      have S1:=S.below hb5
      clear c0 c1 c2 S
      cases hh:cY (ad gs) y j
      ·have HN:=HNO.out (fun h=>by rw[h j hjl] at hh;cases hh)
       have HEND:Hid (SoQ gs al fl w (.returned (.tuple #[.agg #[.int .i64 y.a0,.int .i64 y.a1,.int .i64 y.a2,.int .i64 y.f0,.int .i64 y.f1,.int .i64 y.f2],.bool false])) (aJ w5 (w.heap.size+1) y)):=SoQ.no y HN (S1.bl.trans (aO (by omega)))
       clear HN hh
       have q0:=S1.r.cell 0;have q1:=S1.r.cell 1;have q2:=S1.r.cell 2;have q3:=S1.r.cell 3;have q4:=S1.r.cell 4;have q5:=S1.r.cell 5
       have c0:=S1.o.cell 0;have c1:=S1.o.cell 1;have c2:=S1.o.cell 2;have c3:=S1.o.cell 3;have c4:=S1.o.cell 4;have c5:=S1.o.cell 5
       have f0:=S1.r.fr 0;have f1:=S1.r.fr 1;have f2:=S1.r.fr 2;have f3:=S1.r.fr 3;have f4:=S1.r.fr 4;have f5:=S1.r.fr 5
       go_wp2_with fail
       change bodyPost _ _ _ _ _ (aJ w5 (w.heap.size+1) y)
       clear c0 c1 c2 c3 c4 c5 q0 q1 q2 q3 q4 q5 f0 f1 f2 f3 f4 f5
       have SP:=S1.r.put y
       have hB:=HEND.out
       generalize aJ w5 (w.heap.size+1) y=W at SP hB ⊢
       have q0:=SP.cell 0;have q1:=SP.cell 1;have q2:=SP.cell 2;have q3:=SP.cell 3;have q4:=SP.cell 4;have q5:=SP.cell 5
       refine bodyPost_ret (v:=.tuple #[.agg #[.int .i64 (y).a0,.int .i64 (y).a1,.int .i64 (y).a2,.int .i64 (y).f0,.int .i64 (y).f1,.int .i64 (y).f2],.bool false]) (by simp[results,Tryz.results43,go_sem,q0,q1,q2,q3,q4,q5]) rfl hB
      ·have HH:=uk hh
       clear hh
       go_wp2_with fail
       go_roundw
       case rel =>
        refine⟨j+1,by go_num,by omega,S1,fun g hg=>?_⟩
        by_cases hgj:g=j
        ·subst hgj;exact HH.out
        ·exact hheld.out g (by omega)
       case measure=>simp[intOf];omega
     ·have HA:gG (ad gs) y:=fun g hg=>hheld.out g (by have:(ad gs).n=gs.length:=rfl;omega)
      have HEND:Hid (SoQ gs al fl w (.returned (.tuple #[.agg #[.int .i64 y.a0,.int .i64 y.a1,.int .i64 y.a2,.int .i64 y.f0,.int .i64 y.f1,.int .i64 y.f2],.bool true])) (aJ wr (w.heap.size+1) y)):=SoQ.yes y (HY.out HA) (S.bl.trans (aO (by omega)))
      have S1:=S
      clear HA S hheld
      have q0:=S1.r.cell 0;have q1:=S1.r.cell 1;have q2:=S1.r.cell 2;have q3:=S1.r.cell 3;have q4:=S1.r.cell 4;have q5:=S1.r.cell 5
      have c0:=S1.o.cell 0;have c1:=S1.o.cell 1;have c2:=S1.o.cell 2;have c3:=S1.o.cell 3;have c4:=S1.o.cell 4;have c5:=S1.o.cell 5
      have f0:=S1.r.fr 0;have f1:=S1.r.fr 1;have f2:=S1.r.fr 2;have f3:=S1.r.fr 3;have f4:=S1.r.fr 4;have f5:=S1.r.fr 5
      go_wp2_with fail
      change bodyPost _ _ _ _ _ (aJ wr (w.heap.size+1) y)
      clear c0 c1 c2 c3 c4 c5 q0 q1 q2 q3 q4 q5 f0 f1 f2 f3 f4 f5
      have SP:=S1.r.put y
      have hB:=HEND.out
      generalize aJ wr (w.heap.size+1) y=W at SP hB ⊢
      have q0:=SP.cell 0;have q1:=SP.cell 1;have q2:=SP.cell 2;have q3:=SP.cell 3;have q4:=SP.cell 4;have q5:=SP.cell 5
      refine bodyPost_ret (v:=.tuple #[.agg #[.int .i64 (y).a0,.int .i64 (y).a1,.int .i64 (y).a2,.int .i64 (y).f0,.int .i64 (y).f1,.int .i64 (y).f2],.bool true]) (by simp[results,Tryz.results43,go_sem,q0,q1,q2,q3,q4,q5]) rfl hB
 ·have HN:∀ z,¬ cA gs al fl z:=fun z hk=>hz (hk.lens hn3)
  have HEND:Hid (∀ n,SoQ gs al fl w (.returned (.tuple #[.agg #[.int .i64 0,.int .i64 0,.int .i64 0,.int .i64 0,.int .i64 0,.int .i64 0],.bool false])) (aJ (w3.drewN n) (w.heap.size+1) St.zero)):=fun n=>SoQ.no St.zero HN ((S0.below (below_drewN (Below.refl w3.heap.size w3) n)).bl.trans (aO (by omega)))
  by_cases hz1:al.length=gs.length
  ·have hd1:((al.length:Int) != (gs.length:Int))=false:=by simp;omega
   have hd2:((fl.length:Int) != (gs.length:Int))=true:=by simp;omega
   clear hz hz1 HN
   go_quiet (fail)
   have S1:=S0.below (below_drewN (Below.refl w3.heap.size w3) nq)
   have q0:=S1.r.cell 0;have q1:=S1.r.cell 1;have q2:=S1.r.cell 2;have q3:=S1.r.cell 3;have q4:=S1.r.cell 4;have q5:=S1.r.cell 5
   have c0:=S1.o.cell 0;have c1:=S1.o.cell 1;have c2:=S1.o.cell 2;have c3:=S1.o.cell 3;have c4:=S1.o.cell 4;have c5:=S1.o.cell 5
   have f0:=S1.r.fr 0;have f1:=S1.r.fr 1;have f2:=S1.r.fr 2;have f3:=S1.r.fr 3;have f4:=S1.r.fr 4;have f5:=S1.r.fr 5
   go_wp2_with fail
   change bodyPost _ _ _ _ _ (aJ (w3.drewN nq) (w.heap.size+1) St.zero)
   clear c0 c1 c2 c3 c4 c5 q0 q1 q2 q3 q4 q5 f0 f1 f2 f3 f4 f5
   have SP:=S1.r.put St.zero
   have hB:=HEND.out nq
   generalize aJ (w3.drewN nq) (w.heap.size+1) St.zero=W at SP hB ⊢
   have q0:=SP.cell 0;have q1:=SP.cell 1;have q2:=SP.cell 2;have q3:=SP.cell 3;have q4:=SP.cell 4;have q5:=SP.cell 5
   refine bodyPost_ret (v:=.tuple #[.agg #[.int .i64 (St.zero).a0,.int .i64 (St.zero).a1,.int .i64 (St.zero).a2,.int .i64 (St.zero).f0,.int .i64 (St.zero).f1,.int .i64 (St.zero).f2],.bool false]) (by simp[results,Tryz.results43,go_sem,q0,q1,q2,q3,q4,q5]) rfl hB
  ·have hd1:((al.length:Int) != (gs.length:Int))=true:=by simp;omega
   clear hz hz1 HN
   go_quiet (fail)
   have S1:=S0.below (below_drewN (Below.refl w3.heap.size w3) nq)
   have q0:=S1.r.cell 0;have q1:=S1.r.cell 1;have q2:=S1.r.cell 2;have q3:=S1.r.cell 3;have q4:=S1.r.cell 4;have q5:=S1.r.cell 5
   have c0:=S1.o.cell 0;have c1:=S1.o.cell 1;have c2:=S1.o.cell 2;have c3:=S1.o.cell 3;have c4:=S1.o.cell 4;have c5:=S1.o.cell 5
   have f0:=S1.r.fr 0;have f1:=S1.r.fr 1;have f2:=S1.r.fr 2;have f3:=S1.r.fr 3;have f4:=S1.r.fr 4;have f5:=S1.r.fr 5
   go_wp2_with fail
   change bodyPost _ _ _ _ _ (aJ (w3.drewN nq) (w.heap.size+1) St.zero)
   clear c0 c1 c2 c3 c4 c5 q0 q1 q2 q3 q4 q5 f0 f1 f2 f3 f4 f5
   have SP:=S1.r.put St.zero
   have hB:=HEND.out nq
   generalize aJ (w3.drewN nq) (w.heap.size+1) St.zero=W at SP hB ⊢
   have q0:=SP.cell 0;have q1:=SP.cell 1;have q2:=SP.cell 2;have q3:=SP.cell 3;have q4:=SP.cell 4;have q5:=SP.cell 5
   refine bodyPost_ret (v:=.tuple #[.agg #[.int .i64 (St.zero).a0,.int .i64 (St.zero).a1,.int .i64 (St.zero).a2,.int .i64 (St.zero).f0,.int .i64 (St.zero).f1,.int .i64 (St.zero).f2],.bool false]) (by simp[results,Tryz.results43,go_sem,q0,q1,q2,q3,q4,q5]) rfl hB
end Go.Proofs.YtlkniohhalnjjaaGreatDoor
