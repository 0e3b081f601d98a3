/- Lemmas of this claim. -/
import Derived.Test.YtdlioncecgnloaaGreatDoorXPL6
import Derived.Test.YtdlioncecgnloaaGreatDoorXLcs1
set_option linter.all false
set_option maxRecDepth 100000
set_option maxHeartbeats 8000000
namespace Go.Proofs.YtdlioncecgnloaaGreatDoor
open Go.RowKit Dg
theorem Bo (v:Value) (fa fb:List ByteArray) (vx vy:Value) (x y:List ByteArray) (w:World) (hF:IsF w v fa fb) (hX:IsS w vx x) (hY:IsS w vy y) (hl:y.length=x.length) (hn:x.length≤16) (h1:fa.length≤7) (h2:fb.length≤7)
  (hs:∀ t,t<x.length→∃ s,jP (fa.take (min fa.length (t+1))) (eG x t (min fa.length (t+1)))=(s,0)∧jP (fb.take (min fb.length (t+1))) (eG y t (min fb.length (t+1)))=(s,0)) (hG:Gx w) :
  Calls Tryz.prog 59 #[v,vx,vy] w fun e w'=>e=.returned (.bool true)∧Below w.heap.size w w':=by
 obtain⟨p,c,q,d,rfl,hfa,hfb⟩:=id hF.ex
 obtain⟨px,cx,rfl,-⟩:=id hX.form
 obtain⟨py,cy,rfl,-⟩:=id hY.form
 rw[hl] at hY ⊢
 obtain⟨N,hN⟩:∃ N,N=x.length:=⟨_,rfl⟩
 rw[←hN] at hX hY hn hs ⊢
 have HL:=BZ (And.intro hN.symm (hl.trans hN.symm))
 have HSS:=BZ hs
 clear hl hN hs
 go_enter Tryz.func59,Tryz.ntmps59
 go_upto_region 1 with fail
 have cc:=ap w (.slice p fa.length c) (.slice q fb.length d)
 have m1:=ae w (.cells #[.slice p fa.length c,.slice q fb.length d] 28)
 have z1:=size_alloc w (.cells #[.slice p fa.length c,.slice q fb.length d] 28)
 generalize w.alloc (.cells #[.slice p fa.length c,.slice q fb.length d] 28)=w1 at *
 have HA:=BZ (hfa.below m1)
 have HB:=BZ (hfb.below m1)
 have HX:=BZ (hX.below m1)
 have HY:=BZ (hY.below m1)
 have HG:=BZ (hG.below m1)
 have M1:=BZ m1
 have k0:=cc.1
 have k1:=cc.2
 obtain⟨g,hg⟩:∃ g,g=w.heap.size:=⟨_,rfl⟩
 rw[←hg] at k0 k1 ⊢
 have hlt:g<w1.heap.size:=by omega
 clear hfa hfb hX hY hG hF cc z1 m1 hg
 go_upto_region 4 with fail
 go_loopw [7] (fun s7 wr=>∃ t:Nat,s7=.int .i64 t∧t≤N∧Below w1.heap.size w1 wr) (fun s7 _=>N-(intOf s7).toNat)
 case atStart=>exact⟨0,rfl,Cp _,Below.refl _ _⟩
 case round =>
  obtain⟨t,rfl,htN,hbr⟩:=hrel
  by_cases ht:t<N
  ·have hxl:x.length=N:=HL.out.1
   have hyl:y.length=N:=HL.out.2
   have k0r:=aa hbr hlt k0
   have k1r:=aa hbr hlt k1
   have HAr:=BZ (HA.out.below hbr)
   have HBr:=BZ (HB.out.below hbr)
   have HXr:=BZ (HX.out.below hbr)
   have HYr:=BZ (HY.out.below hbr)
   have HGr:=BZ (HG.out.below hbr)
   have HBW:=BZ hbr
   have hltw:g<wr.heap.size:=Cg hlt hbr.size
   obtain⟨s,hs1,hs2⟩:=HSS.out t ht
   obtain⟨m1,hm1⟩:∃ m,m=min fa.length (t+1):=⟨_,rfl⟩
   obtain⟨m2,hm2⟩:∃ m,m=min fb.length (t+1):=⟨_,rfl⟩
   rw[←hm1] at hs1
   rw[←hm2] at hs2
   have HM1:=BZ hm1
   have HM2:=BZ hm2
   have HD1:=BZ hs1
   have HD2:=BZ hs2
   clear hm1 hm2 hs1 hs2 hbr k0 k1
   rename World=>wo
   go_upto_region 8 with fail
   go_loopw [8,9,10] (fun s8 s9 s10 wr=>∃ k:Nat,s10=.int .i64 k∧k≤m1∧gD wr wo.heap.size s8 (fa.take k) s9 (eG x t k)∧Below wo.heap.size wo wr) (fun _ _ s10 _=>m1-(intOf s10).toNat)
   case atStart=>exact⟨0,rfl,Cp _,by rw[Ch];exact gD.nil _ _,Below.refl _ _⟩
   case round =>
    obtain⟨k,rfl,hkm,hT,hbr⟩:=hrel
    have kr:=aa hbr hltw k0r
    go_upto_region 8 with fail
    go_cut [38] from 29 to 38 (fun s38 wx=>s38=.bool (decide (k<m1))∧wx=wr)
    case first =>
     by_cases hka:k<fa.length
     ·by_cases hkt:k≤t
      ·have hd:decide (k<m1)=true:=decide_eq_true (by rw[HM1.out];omega)
       go_wp2
       go_meet
       exact⟨by rw[hd],rfl⟩
      ·have hd:decide (k<m1)=false:=decide_eq_false (by rw[HM1.out];omega)
       have hkt2:decide (k≤t)=false:=decide_eq_false hkt
       go_wp2
       go_meet
       exact⟨by rw[hd],rfl⟩
     ·have hd:decide (k<m1)=false:=decide_eq_false (by rw[HM1.out];omega)
      go_wp2
      go_meet
      exact⟨by rw[hd],rfl⟩
    case rest =>
     obtain⟨rfl,hww⟩:=hcut
     subst hww
     by_cases hk:k<m1
     ·have hka:k<fa.length:=by have:=HM1.out;omega
      have hkt:k≤t:=by have:=HM1.out;omega
      rw[decide_eq_true hk]
      obtain⟨bl,ol,epl,hll,hcl⟩:=HAr.out.all (by omega)
      obtain⟨bs,os,eps,hls,hcs⟩:=HXr.out.all (by omega)
      subst epl eps
      have l0:=hcl k hka
      have r0:=hcs (t-k) (by omega)
      have HT1:=BZ (show fa.take (k+1)=fa.take k++[aq fa k] from by rw[←cO hka];exact (Cl hka).symm)
      have HT2:=BZ (show eG x t (k+1)=eG x t k++[aq x (t-k)] from by unfold eG;rw[EM,DH];rfl)
      have hLen1:(fa.take k).length<1000000000:=by simp;omega
      have hLen2:(eG x t k).length<1000000000:=by unfold eG;simp;omega
      obtain⟨z1,hz1⟩:∃ z,z=aq fa k:=⟨_,rfl⟩
      obtain⟨z2,hz2⟩:∃ z,z=aq x (t-k):=⟨_,rfl⟩
      rw[←hz1] at l0 HT1
      rw[←hz2] at r0 HT2
      clear hz1 hz2 hcl hcs
      have htk:(t:Int)-(k:Int)=((t-k:Nat):Int):=by omega
      obtain⟨tk,htk2⟩:∃ n,n=t-k:=⟨_,rfl⟩
      rw[←htk2] at htk r0
      have htk3:tk<N:=by omega
      have hwr:IntKind.i64.wrap (tk:Int)=(tk:Int):=IntWalk.i64_in _ (by omega)
      obtain⟨L1,hL1⟩:∃ L,L=fa.take k:=⟨_,rfl⟩
      obtain⟨L2,hL2⟩:∃ L,L=eG x t k:=⟨_,rfl⟩
      rw[←hL1] at hT HT1 hLen1
      rw[←hL2] at hT HT2 hLen2
      clear hL1 hL2 htk2
      go_upto_region 10 with fail
      have hBd:Below wc.heap.size wc wc.drew:=(Below.refl _ _).drew
      have hTd:=hT.below hBd
      have HBD:=BZ (hbr.trans (hBd.mono hbr.size))
      refine wp_mono (aF (Q:=bL _) (fun wx:World=>Below wo.heap.size wc.drew wx) (fun _=>false) (by kernel_rfl) ?_) (fun _ _ _ h=>cG h)
      have kd:=aa hBd (Cg hltw hbr.size) kr
      clear hT hbr hBd kr
      generalize wc.drew=wd at *
      have hS:Below wo.heap.size wd wd:=Below.refl _ _
      have HBG:=BZ (show wo.heap.size≤wd.heap.size from HBD.out.size)
      have l0d:=(HBD.out.cell (p:=⟨bl,ol+k,none⟩) hll).trans l0
      have r0d:=(HBD.out.cell (p:=⟨bs,os+tk,none⟩) hls).trans r0
      clear l0 r0
      refine ai (i:=0) (v:=?vv0p) rfl (by kernel_rfl) (fun _ _ _ h=>h) rfl ?hy0p ?rest0p
      case hy0p=>(intro wy;go_simp;try with_reducible rfl)
      try simp only[Act.put,Ca,B_,B9,B4,Cb,Cc]
      refine ai (i:=1) (v:=?vv1p) rfl (by kernel_rfl) (fun _ _ _ h=>h) rfl ?hy1p ?rest1p
      case hy1p=>(intro wy;go_simp;try with_reducible rfl)
      try simp only[Act.put,Ca,B_,B9,B4,Cb,Cc]
      refine aC (i:=2) (v:=?vv2p) rfl (by kernel_rfl) (fun _ _ _ h=>h) rfl hS ?hy2p ?rest2p
      case hy2p =>
       intro wy hy
       have c0:=(hy.cell (p:=⟨g,0,none⟩) hltw).trans kd
       clear hy
       go_simp
       try with_reducible rfl
      try simp only[Act.put,Ca,B_,B9,B4,Cb,Cc]
      refine ai (i:=3) (v:=?vv3p) rfl (by kernel_rfl) (fun _ _ _ h=>h) rfl ?hy3p ?rest3p
      case hy3p=>(intro wy;go_simp;try with_reducible rfl)
      try simp only[Act.put,Ca,B_,B9,B4,Cb,Cc]
      refine ai (i:=4) (v:=?vv4p) rfl (by kernel_rfl) (fun _ _ _ h=>h) rfl ?hy4p ?rest4p
      case hy4p=>(intro wy;go_simp;try with_reducible rfl)
      try simp only[Act.put,Ca,B_,B9,B4,Cb,Cc]
      refine aC (i:=5) (v:=?vv5p) rfl (by kernel_rfl) (fun _ _ _ h=>h) rfl hS ?hy5p ?rest5p
      case hy5p =>
       intro wy hy
       have c0:=(hy.cell (p:=⟨bl,ol+k,none⟩) hll).trans l0d
       clear hy
       go_simp
       try with_reducible rfl
      try simp only[Act.put,Ca,B_,B9,B4,Cb,Cc]
      refine ai (i:=8) (v:=?vv8p) rfl (by kernel_rfl) (fun _ _ _ h=>h) rfl ?hy8p ?rest8p
      case hy8p=>(intro wy;go_simp;try with_reducible rfl)
      try simp only[Act.put,Ca,B_,B9,B4,Cb,Cc]
      refine ai (i:=9) (v:=?vv9p) rfl (by kernel_rfl) (fun _ _ _ h=>h) rfl ?hy9p ?rest9p
      case hy9p=>(intro wy;go_simp;try with_reducible rfl)
      try simp only[Act.put,Ca,B_,B9,B4,Cb,Cc]
      refine ai (i:=10) (v:=?vv10p) rfl (by kernel_rfl) (fun _ _ _ h=>h) rfl ?hy10p ?rest10p
      case hy10p=>(intro wy;go_simp;try with_reducible rfl)
      try simp only[Act.put,Ca,B_,B9,B4,Cb,Cc]
      refine ai (i:=11) (v:=?vv11p) rfl (by kernel_rfl) (fun _ _ _ h=>h) rfl ?hy11p ?rest11p
      case hy11p=>(intro wy;go_simp;try with_reducible rfl)
      try simp only[Act.put,Ca,B_,B9,B4,Cb,Cc]
      refine ai (i:=12) (v:=?vv12p) rfl (by kernel_rfl) (fun _ _ _ h=>h) rfl ?hy12p ?rest12p
      case hy12p=>(intro wy;go_simp;try with_reducible rfl)
      try simp only[Act.put,Ca,B_,B9,B4,Cb,Cc]
      refine ai (i:=13) (v:=?vv13p) rfl (by kernel_rfl) (fun _ _ _ h=>h) rfl ?hy13p ?rest13p
      case hy13p=>(intro wy;go_simp;try with_reducible rfl)
      try simp only[Act.put,Ca,B_,B9,B4,Cb,Cc]
      refine aC (i:=14) (v:=?vv14p) rfl (by kernel_rfl) (fun _ _ _ h=>h) rfl hS ?hy14p ?rest14p
      case hy14p =>
       intro wy hy
       have c0:=(hy.cell (p:=⟨bs,os+tk,none⟩) hls).trans r0d
       clear hy
       go_simp
       try with_reducible rfl
      try simp only[Act.put,Ca,B_,B9,B4,Cb,Cc]
      clear kd l0d r0d
      refine fK (i:=6) (i':=15) rfl rfl (by kernel_rfl) rfl rfl (fun K hK=>?_) (fun K hK=>?_)
      ·go_simp
       have hS6:=hS.alloc (by have:=HBG.out;have:=hS.size;omega) (.cells #[.string z1] 22)
       have T6:=hTd.alloc (.cells #[.string z1] 22)
       refine hK _ _ (fun _ _=>hS6) ?_
       clear hK K
       try simp only[Act.put,Ca,B_,B9,B4,Cb,Cc]
       have c6:=am wd #[.string z1] 22 0 _ rfl
       have s6:=BZ (size_alloc wd (.cells #[.string z1] 22))
       generalize wd.alloc (.cells #[.string z1] 22)=w6 at *
       refine fK (i:=7) (i':=15) rfl rfl (by kernel_rfl) rfl rfl (fun K hK=>?_) (fun K hK=>?_)
       ·refine aQ rfl ?_
        refine aJ 26 Tryz.underlying26 rfl (.tmp 41) (.tmp 47) rfl wo.heap.size _ _ z1 rfl T6.o1 wd.heap.size rfl c6 hLen1 (by have:=HBG.out;have:=hS6.size;omega) ?_
        intro va w7 A7
        have hS7:=A7.below T6.o1 hS6 (Cd _) (by have:=HBG.out;have:=hS6.size;omega)
        have T7:=A7.one T6
        refine⟨rfl,hK _ _ (fun _ _=>hS7) ?_⟩
        clear hK K
        try simp only[Act.put,Ca,B_,B9,B4,Cb,Cc]
        refine ax (i:=15) rfl (by kernel_rfl) rfl (fun K hK=>?_)
        go_simp
        have hS15:=hS7.alloc (by have:=HBG.out;have:=hS7.size;omega) (.cells #[.string z2] 22)
        have T15:=T7.alloc (.cells #[.string z2] 22)
        refine hK _ _ (fun _ _=>hS15) ?_
        clear hK K
        try simp only[Act.put,Ca,B_,B9,B4,Cb,Cc]
        refine ax (i:=16) rfl (by kernel_rfl) rfl (fun K hK=>?_)
        refine aQ rfl ?_
        refine aJ 26 Tryz.underlying26 rfl (.tmp 49) (.tmp 56) rfl wo.heap.size _ _ z2 rfl T15.o2 w7.heap.size rfl (am w7 #[.string z2] 22 0 _ rfl) hLen2 (by have:=HBG.out;have:=hS15.size;omega) ?_
        intro vb w16 A16
        have hS16:=A16.below T15.o2 hS15 (Cd _) (by have:=HBG.out;have:=hS15.size;omega)
        have T16:=A16.two T15
        refine⟨rfl,hK _ _ (fun _ _=>hS16) ?_⟩
        clear hK K
        try simp only[Act.put,Ca,B_,B9,B4,Cb,Cc]
        refine ai (i:=17) (v:=?vv17Ap) rfl (by kernel_rfl) (fun _ _ _ h=>h) rfl ?hy17Ap ?rest17Ap
        case hy17Ap=>(intro wy;go_simp;try with_reducible rfl)
        try simp only[Act.put,Ca,B_,B9,B4,Cb,Cc]
        refine ai (i:=18) (v:=?vv18Ap) rfl (by kernel_rfl) (fun _ _ _ h=>h) rfl ?hy18Ap ?rest18Ap
        case hy18Ap=>(intro wy;go_simp;try with_reducible rfl)
        try simp only[Act.put,Ca,B_,B9,B4,Cb,Cc]
        refine aS (by kernel_rfl) ?_ _
        simp only[bL]
        have TT:=T16
        rw[←HT1.out,←HT2.out] at TT
        have BB:=HBD.out.trans hS16
        have HTT:=BZ TT
        have HBB:=BZ BB
        clear TT BB T6 T7 T15 T16 A7 A16 hS hS6 hS7 hS15 hS16 hTd
        go_wp2
        go_roundw
        case rel=>exact⟨k+1,by go_num,by omega,HTT.out,HBB.out⟩
        case measure=>(first | (simp[intOf];done) | (simp[intOf];omega))
       ·go_simp
        have hS15:=hS6.alloc (by have:=HBG.out;have:=hS6.size;omega) (.cells #[.string z2] 22)
        have T15:=T6.alloc (.cells #[.string z2] 22)
        refine hK _ _ (fun _ _=>hS15) ?_
        clear hK K
        try simp only[Act.put,Ca,B_,B9,B4,Cb,Cc]
        have c15:=am w6 #[.string z2] 22 0 _ rfl
        have c6':=aa (ae w6 (.cells #[.string z2] 22)) (by have:=s6.out;omega) c6
        have s15:=BZ (size_alloc w6 (.cells #[.string z2] 22))
        refine ax (i:=7) rfl (by kernel_rfl) rfl (fun K hK=>?_)
        refine aQ rfl ?_
        refine aJ 26 Tryz.underlying26 rfl (.tmp 41) (.tmp 47) rfl wo.heap.size _ _ z1 rfl T15.o1 wd.heap.size rfl c6' hLen1 (by have:=HBG.out;have:=hS15.size;omega) ?_
        intro va w7 A7
        have hS7:=A7.below T15.o1 hS15 (Cd _) (by have:=HBG.out;have:=hS15.size;omega)
        have T7:=A7.one T15
        refine⟨rfl,hK _ _ (fun _ _=>hS7) ?_⟩
        clear hK K
        try simp only[Act.put,Ca,B_,B9,B4,Cb,Cc]
        have c15':=A7.cell T15.o1 (b:=w6.heap.size) (o:=0) (fun e=>by have:=(World.ownsRow.lt T6.o1 _ e).2;omega) c15
        refine ax (i:=16) rfl (by kernel_rfl) rfl (fun K hK=>?_)
        refine aQ rfl ?_
        refine aJ 26 Tryz.underlying26 rfl (.tmp 49) (.tmp 56) rfl wo.heap.size _ _ z2 rfl T7.o2 w6.heap.size rfl c15' hLen2 (by have:=HBG.out;have:=hS7.size;omega) ?_
        intro vb w16 A16
        have hS16:=A16.below T7.o2 hS7 (Cd _) (by have:=HBG.out;have:=hS7.size;omega)
        have T16:=A16.two T7
        refine⟨rfl,hK _ _ (fun _ _=>hS16) ?_⟩
        clear hK K
        try simp only[Act.put,Ca,B_,B9,B4,Cb,Cc]
        refine ai (i:=17) (v:=?vv17Bp) rfl (by kernel_rfl) (fun _ _ _ h=>h) rfl ?hy17Bp ?rest17Bp
        case hy17Bp=>(intro wy;go_simp;try with_reducible rfl)
        try simp only[Act.put,Ca,B_,B9,B4,Cb,Cc]
        refine ai (i:=18) (v:=?vv18Bp) rfl (by kernel_rfl) (fun _ _ _ h=>h) rfl ?hy18Bp ?rest18Bp
        case hy18Bp=>(intro wy;go_simp;try with_reducible rfl)
        try simp only[Act.put,Ca,B_,B9,B4,Cb,Cc]
        refine aS (by kernel_rfl) ?_ _
        simp only[bL]
        have TT:=T16
        rw[←HT1.out,←HT2.out] at TT
        have BB:=HBD.out.trans hS16
        have HTT:=BZ TT
        have HBB:=BZ BB
        clear TT BB T6 T7 T15 T16 A7 A16 hS hS6 hS7 hS15 hS16 hTd c6 c15 c6' c15'
        go_wp2
        go_roundw
        case rel=>exact⟨k+1,by go_num,by omega,HTT.out,HBB.out⟩
        case measure=>(first | (simp[intOf];done) | (simp[intOf];omega))
      ·go_simp
       have hS15:=hS.alloc (by have:=HBG.out;have:=hS.size;omega) (.cells #[.string z2] 22)
       have T15:=hTd.alloc (.cells #[.string z2] 22)
       refine hK _ _ (fun _ _=>hS15) ?_
       clear hK K
       try simp only[Act.put,Ca,B_,B9,B4,Cb,Cc]
       have c15:=am wd #[.string z2] 22 0 _ rfl
       have s15:=BZ (size_alloc wd (.cells #[.string z2] 22))
       generalize wd.alloc (.cells #[.string z2] 22)=w15 at *
       refine ax (i:=6) rfl (by kernel_rfl) rfl (fun K hK=>?_)
       go_simp
       have hS6:=hS15.alloc (by have:=HBG.out;have:=hS15.size;omega) (.cells #[.string z1] 22)
       have T6:=T15.alloc (.cells #[.string z1] 22)
       refine hK _ _ (fun _ _=>hS6) ?_
       clear hK K
       try simp only[Act.put,Ca,B_,B9,B4,Cb,Cc]
       have c6:=am w15 #[.string z1] 22 0 _ rfl
       have c15':=aa (ae w15 (.cells #[.string z1] 22)) (by have:=s15.out;omega) c15
       have s6:=BZ (size_alloc w15 (.cells #[.string z1] 22))
       refine ax (i:=7) rfl (by kernel_rfl) rfl (fun K hK=>?_)
       refine aQ rfl ?_
       refine aJ 26 Tryz.underlying26 rfl (.tmp 41) (.tmp 47) rfl wo.heap.size _ _ z1 rfl T6.o1 w15.heap.size rfl c6 hLen1 (by have:=HBG.out;have:=hS6.size;omega) ?_
       intro va w7 A7
       have hS7:=A7.below T6.o1 hS6 (Cd _) (by have:=HBG.out;have:=hS6.size;omega)
       have T7:=A7.one T6
       refine⟨rfl,hK _ _ (fun _ _=>hS7) ?_⟩
       clear hK K
       try simp only[Act.put,Ca,B_,B9,B4,Cb,Cc]
       have c15'':=A7.cell T6.o1 (b:=wd.heap.size) (o:=0) (fun e=>by have:=(World.ownsRow.lt hTd.o1 _ e).2;omega) c15'
       refine ax (i:=16) rfl (by kernel_rfl) rfl (fun K hK=>?_)
       refine aQ rfl ?_
       refine aJ 26 Tryz.underlying26 rfl (.tmp 49) (.tmp 56) rfl wo.heap.size _ _ z2 rfl T7.o2 wd.heap.size rfl c15'' hLen2 (by have:=HBG.out;have:=hS7.size;omega) ?_
       intro vb w16 A16
       have hS16:=A16.below T7.o2 hS7 (Cd _) (by have:=HBG.out;have:=hS7.size;omega)
       have T16:=A16.two T7
       refine⟨rfl,hK _ _ (fun _ _=>hS16) ?_⟩
       clear hK K
       try simp only[Act.put,Ca,B_,B9,B4,Cb,Cc]
       refine ai (i:=17) (v:=?vv17Cp) rfl (by kernel_rfl) (fun _ _ _ h=>h) rfl ?hy17Cp ?rest17Cp
       case hy17Cp=>(intro wy;go_simp;try with_reducible rfl)
       try simp only[Act.put,Ca,B_,B9,B4,Cb,Cc]
       refine ai (i:=18) (v:=?vv18Cp) rfl (by kernel_rfl) (fun _ _ _ h=>h) rfl ?hy18Cp ?rest18Cp
       case hy18Cp=>(intro wy;go_simp;try with_reducible rfl)
       try simp only[Act.put,Ca,B_,B9,B4,Cb,Cc]
       refine aS (by kernel_rfl) ?_ _
       simp only[bL]
       have TT:=T16
       rw[←HT1.out,←HT2.out] at TT
       have BB:=HBD.out.trans hS16
       have HTT:=BZ TT
       have HBB:=BZ BB
       clear TT BB T6 T7 T15 T16 A7 A16 hS hS6 hS7 hS15 hS16 hTd c6 c15 c15' c15''
       go_wp2
       go_roundw
       case rel=>exact⟨k+1,by go_num,by omega,HTT.out,HBB.out⟩
       case measure=>(first | (simp[intOf];done) | (simp[intOf];omega))
     ·have hks:k=m1:=by omega
      rw[decide_eq_false hk]
      rw[hks] at hT
      have hl1:(fa.take m1).length=m1:=by rw[Cw];have:=HM1.out;omega
      have hl2:(eG x t m1).length=m1:=by simp[eG]
      have hdt:=yx _ _ (fa.take m1) (eG x t m1) wc hT.o1.isS hT.o2.isS (by rw[hl1,hl2]) (by rw[hl1];have:=HM1.out;omega) (HGr.out.below hbr).g
      rw[HD1.out] at hdt
      have HDOT:=BZ hdt
      clear hdt hl1 hl2 hT kr hks hk hkm
      go_wp2_with fail
      refine HDOT.out.mono ?_
      rintro e w5 ⟨rfl,hb5⟩
      have hbs:=hbr.trans (hb5.mono hbr.size)
      have k1s:=aa hbs hltw k1r
      have HB2:=BZ (HBr.out.below hbs)
      have HY2:=BZ (HYr.out.below hbs)
      have HG2:=BZ (HGr.out.below hbs)
      have HBX:=BZ (HBW.out.trans (hbs.mono HBW.out.size))
      have hltw2:g<w5.heap.size:=Cg hltw hbs.size
      clear hb5 hbr hbs HDOT k1r k0r
      rename World=>wp
      go_upto_region 14 with fail
      go_loopw [13,14,15] (fun s13 s14 s15 wr=>∃ k:Nat,s15=.int .i64 k∧k≤m2∧gD wr wp.heap.size s13 (fb.take k) s14 (eG y t k)∧Below wp.heap.size wp wr) (fun _ _ s15 _=>m2-(intOf s15).toNat)
      case atStart=>exact⟨0,rfl,Cp _,by rw[Ch];exact gD.nil _ _,Below.refl _ _⟩
      case round =>
       obtain⟨k,rfl,hkm,hT,hbr⟩:=hrel
       have kr:=aa hbr hltw2 k1s
       go_upto_region 14 with fail
       go_cut [73] from 64 to 73 (fun s73 wx=>s73=.bool (decide (k<m2))∧wx=wr)
       case first =>
        by_cases hka:k<fb.length
        ·by_cases hkt:k≤t
         ·have hd:decide (k<m2)=true:=decide_eq_true (by rw[HM2.out];omega)
          go_wp2
          go_meet
          exact⟨by rw[hd],rfl⟩
         ·have hd:decide (k<m2)=false:=decide_eq_false (by rw[HM2.out];omega)
          have hkt2:decide (k≤t)=false:=decide_eq_false hkt
          go_wp2
          go_meet
          exact⟨by rw[hd],rfl⟩
        ·have hd:decide (k<m2)=false:=decide_eq_false (by rw[HM2.out];omega)
         go_wp2
         go_meet
         exact⟨by rw[hd],rfl⟩
       case rest =>
        obtain⟨rfl,hww⟩:=hcut
        subst hww
        by_cases hk:k<m2
        ·have hka:k<fb.length:=by have:=HM2.out;omega
         have hkt:k≤t:=by have:=HM2.out;omega
         rw[decide_eq_true hk]
         obtain⟨bl,ol,epl,hll,hcl⟩:=HB2.out.all (by omega)
         obtain⟨bs,os,eps,hls,hcs⟩:=HY2.out.all (by omega)
         subst epl eps
         have l0:=hcl k hka
         have r0:=hcs (t-k) (by omega)
         have HT1:=BZ (show fb.take (k+1)=fb.take k++[aq fb k] from by rw[←cO hka];exact (Cl hka).symm)
         have HT2:=BZ (show eG y t (k+1)=eG y t k++[aq y (t-k)] from by unfold eG;rw[EM,DH];rfl)
         have hLen1:(fb.take k).length<1000000000:=by simp;omega
         have hLen2:(eG y t k).length<1000000000:=by unfold eG;simp;omega
         obtain⟨z1,hz1⟩:∃ z,z=aq fb k:=⟨_,rfl⟩
         obtain⟨z2,hz2⟩:∃ z,z=aq y (t-k):=⟨_,rfl⟩
         rw[←hz1] at l0 HT1
         rw[←hz2] at r0 HT2
         clear hz1 hz2 hcl hcs
         have htk:(t:Int)-(k:Int)=((t-k:Nat):Int):=by omega
         obtain⟨tk,htk2⟩:∃ n,n=t-k:=⟨_,rfl⟩
         rw[←htk2] at htk r0
         have htk3:tk<N:=by omega
         have hwr:IntKind.i64.wrap (tk:Int)=(tk:Int):=IntWalk.i64_in _ (by omega)
         obtain⟨L1,hL1⟩:∃ L,L=fb.take k:=⟨_,rfl⟩
         obtain⟨L2,hL2⟩:∃ L,L=eG y t k:=⟨_,rfl⟩
         rw[←hL1] at hT HT1 hLen1
         rw[←hL2] at hT HT2 hLen2
         clear hL1 hL2 htk2
         go_upto_region 16 with fail
         have hBd:Below wc.heap.size wc wc.drew:=(Below.refl _ _).drew
         have hTd:=hT.below hBd
         have HBD:=BZ (hbr.trans (hBd.mono hbr.size))
         refine wp_mono (aF (Q:=bL _) (fun wx:World=>Below wp.heap.size wc.drew wx) (fun _=>false) (by kernel_rfl) ?_) (fun _ _ _ h=>cG h)
         have kd:=aa hBd (Cg hltw2 hbr.size) kr
         clear hT hbr hBd kr
         generalize wc.drew=wd at *
         have hS:Below wp.heap.size wd wd:=Below.refl _ _
         have HBG:=BZ (show wp.heap.size≤wd.heap.size from HBD.out.size)
         have l0d:=(HBD.out.cell (p:=⟨bl,ol+k,none⟩) hll).trans l0
         have r0d:=(HBD.out.cell (p:=⟨bs,os+tk,none⟩) hls).trans r0
         clear l0 r0
         refine ai (i:=0) (v:=?vv0q) rfl (by kernel_rfl) (fun _ _ _ h=>h) rfl ?hy0q ?rest0q
         case hy0q=>(intro wy;go_simp;try with_reducible rfl)
         try simp only[Act.put,Ca,B_,B9,B4,Cb,Cc]
         refine ai (i:=1) (v:=?vv1q) rfl (by kernel_rfl) (fun _ _ _ h=>h) rfl ?hy1q ?rest1q
         case hy1q=>(intro wy;go_simp;try with_reducible rfl)
         try simp only[Act.put,Ca,B_,B9,B4,Cb,Cc]
         refine aC (i:=2) (v:=?vv2q) rfl (by kernel_rfl) (fun _ _ _ h=>h) rfl hS ?hy2q ?rest2q
         case hy2q =>
          intro wy hy
          have c0:=(hy.cell (p:=⟨g,1,none⟩) hltw2).trans kd
          clear hy
          go_simp
          try with_reducible rfl
         try simp only[Act.put,Ca,B_,B9,B4,Cb,Cc]
         refine ai (i:=3) (v:=?vv3q) rfl (by kernel_rfl) (fun _ _ _ h=>h) rfl ?hy3q ?rest3q
         case hy3q=>(intro wy;go_simp;try with_reducible rfl)
         try simp only[Act.put,Ca,B_,B9,B4,Cb,Cc]
         refine ai (i:=4) (v:=?vv4q) rfl (by kernel_rfl) (fun _ _ _ h=>h) rfl ?hy4q ?rest4q
         case hy4q=>(intro wy;go_simp;try with_reducible rfl)
         try simp only[Act.put,Ca,B_,B9,B4,Cb,Cc]
         refine aC (i:=5) (v:=?vv5q) rfl (by kernel_rfl) (fun _ _ _ h=>h) rfl hS ?hy5q ?rest5q
         case hy5q =>
          intro wy hy
          have c0:=(hy.cell (p:=⟨bl,ol+k,none⟩) hll).trans l0d
          clear hy
          go_simp
          try with_reducible rfl
         try simp only[Act.put,Ca,B_,B9,B4,Cb,Cc]
         refine ai (i:=8) (v:=?vv8q) rfl (by kernel_rfl) (fun _ _ _ h=>h) rfl ?hy8q ?rest8q
         case hy8q=>(intro wy;go_simp;try with_reducible rfl)
         try simp only[Act.put,Ca,B_,B9,B4,Cb,Cc]
         refine ai (i:=9) (v:=?vv9q) rfl (by kernel_rfl) (fun _ _ _ h=>h) rfl ?hy9q ?rest9q
         case hy9q=>(intro wy;go_simp;try with_reducible rfl)
         try simp only[Act.put,Ca,B_,B9,B4,Cb,Cc]
         refine ai (i:=10) (v:=?vv10q) rfl (by kernel_rfl) (fun _ _ _ h=>h) rfl ?hy10q ?rest10q
         case hy10q=>(intro wy;go_simp;try with_reducible rfl)
         try simp only[Act.put,Ca,B_,B9,B4,Cb,Cc]
         refine ai (i:=11) (v:=?vv11q) rfl (by kernel_rfl) (fun _ _ _ h=>h) rfl ?hy11q ?rest11q
         case hy11q=>(intro wy;go_simp;try with_reducible rfl)
         try simp only[Act.put,Ca,B_,B9,B4,Cb,Cc]
         refine ai (i:=12) (v:=?vv12q) rfl (by kernel_rfl) (fun _ _ _ h=>h) rfl ?hy12q ?rest12q
         case hy12q=>(intro wy;go_simp;try with_reducible rfl)
         try simp only[Act.put,Ca,B_,B9,B4,Cb,Cc]
         refine ai (i:=13) (v:=?vv13q) rfl (by kernel_rfl) (fun _ _ _ h=>h) rfl ?hy13q ?rest13q
         case hy13q=>(intro wy;go_simp;try with_reducible rfl)
         try simp only[Act.put,Ca,B_,B9,B4,Cb,Cc]
         refine aC (i:=14) (v:=?vv14q) rfl (by kernel_rfl) (fun _ _ _ h=>h) rfl hS ?hy14q ?rest14q
         case hy14q =>
          intro wy hy
          have c0:=(hy.cell (p:=⟨bs,os+tk,none⟩) hls).trans r0d
          clear hy
          go_simp
          try with_reducible rfl
         try simp only[Act.put,Ca,B_,B9,B4,Cb,Cc]
         clear kd l0d r0d
         refine fK (i:=6) (i':=15) rfl rfl (by kernel_rfl) rfl rfl (fun K hK=>?_) (fun K hK=>?_)
         ·go_simp
          have hS6:=hS.alloc (by have:=HBG.out;have:=hS.size;omega) (.cells #[.string z1] 22)
          have T6:=hTd.alloc (.cells #[.string z1] 22)
          refine hK _ _ (fun _ _=>hS6) ?_
          clear hK K
          try simp only[Act.put,Ca,B_,B9,B4,Cb,Cc]
          have c6:=am wd #[.string z1] 22 0 _ rfl
          have s6:=BZ (size_alloc wd (.cells #[.string z1] 22))
          generalize wd.alloc (.cells #[.string z1] 22)=w6 at *
          refine fK (i:=7) (i':=15) rfl rfl (by kernel_rfl) rfl rfl (fun K hK=>?_) (fun K hK=>?_)
          ·refine aQ rfl ?_
           refine aJ 26 Tryz.underlying26 rfl (.tmp 76) (.tmp 82) rfl wp.heap.size _ _ z1 rfl T6.o1 wd.heap.size rfl c6 hLen1 (by have:=HBG.out;have:=hS6.size;omega) ?_
           intro va w7 A7
           have hS7:=A7.below T6.o1 hS6 (Cd _) (by have:=HBG.out;have:=hS6.size;omega)
           have T7:=A7.one T6
           refine⟨rfl,hK _ _ (fun _ _=>hS7) ?_⟩
           clear hK K
           try simp only[Act.put,Ca,B_,B9,B4,Cb,Cc]
           refine ax (i:=15) rfl (by kernel_rfl) rfl (fun K hK=>?_)
           go_simp
           have hS15:=hS7.alloc (by have:=HBG.out;have:=hS7.size;omega) (.cells #[.string z2] 22)
           have T15:=T7.alloc (.cells #[.string z2] 22)
           refine hK _ _ (fun _ _=>hS15) ?_
           clear hK K
           try simp only[Act.put,Ca,B_,B9,B4,Cb,Cc]
           refine ax (i:=16) rfl (by kernel_rfl) rfl (fun K hK=>?_)
           refine aQ rfl ?_
           refine aJ 26 Tryz.underlying26 rfl (.tmp 84) (.tmp 91) rfl wp.heap.size _ _ z2 rfl T15.o2 w7.heap.size rfl (am w7 #[.string z2] 22 0 _ rfl) hLen2 (by have:=HBG.out;have:=hS15.size;omega) ?_
           intro vb w16 A16
           have hS16:=A16.below T15.o2 hS15 (Cd _) (by have:=HBG.out;have:=hS15.size;omega)
           have T16:=A16.two T15
           refine⟨rfl,hK _ _ (fun _ _=>hS16) ?_⟩
           clear hK K
           try simp only[Act.put,Ca,B_,B9,B4,Cb,Cc]
           refine ai (i:=17) (v:=?vv17Aq) rfl (by kernel_rfl) (fun _ _ _ h=>h) rfl ?hy17Aq ?rest17Aq
           case hy17Aq=>(intro wy;go_simp;try with_reducible rfl)
           try simp only[Act.put,Ca,B_,B9,B4,Cb,Cc]
           refine ai (i:=18) (v:=?vv18Aq) rfl (by kernel_rfl) (fun _ _ _ h=>h) rfl ?hy18Aq ?rest18Aq
           case hy18Aq=>(intro wy;go_simp;try with_reducible rfl)
           try simp only[Act.put,Ca,B_,B9,B4,Cb,Cc]
           refine aS (by kernel_rfl) ?_ _
           simp only[bL]
           have TT:=T16
           rw[←HT1.out,←HT2.out] at TT
           have BB:=HBD.out.trans hS16
           have HTT:=BZ TT
           have HBB:=BZ BB
           clear TT BB T6 T7 T15 T16 A7 A16 hS hS6 hS7 hS15 hS16 hTd
           go_wp2
           go_roundw
           case rel=>exact⟨k+1,by go_num,by omega,HTT.out,HBB.out⟩
           case measure=>(first | (simp[intOf];done) | (simp[intOf];omega))
          ·go_simp
           have hS15:=hS6.alloc (by have:=HBG.out;have:=hS6.size;omega) (.cells #[.string z2] 22)
           have T15:=T6.alloc (.cells #[.string z2] 22)
           refine hK _ _ (fun _ _=>hS15) ?_
           clear hK K
           try simp only[Act.put,Ca,B_,B9,B4,Cb,Cc]
           have c15:=am w6 #[.string z2] 22 0 _ rfl
           have c6':=aa (ae w6 (.cells #[.string z2] 22)) (by have:=s6.out;omega) c6
           have s15:=BZ (size_alloc w6 (.cells #[.string z2] 22))
           refine ax (i:=7) rfl (by kernel_rfl) rfl (fun K hK=>?_)
           refine aQ rfl ?_
           refine aJ 26 Tryz.underlying26 rfl (.tmp 76) (.tmp 82) rfl wp.heap.size _ _ z1 rfl T15.o1 wd.heap.size rfl c6' hLen1 (by have:=HBG.out;have:=hS15.size;omega) ?_
           intro va w7 A7
           have hS7:=A7.below T15.o1 hS15 (Cd _) (by have:=HBG.out;have:=hS15.size;omega)
           have T7:=A7.one T15
           refine⟨rfl,hK _ _ (fun _ _=>hS7) ?_⟩
           clear hK K
           try simp only[Act.put,Ca,B_,B9,B4,Cb,Cc]
           have c15':=A7.cell T15.o1 (b:=w6.heap.size) (o:=0) (fun e=>by have:=(World.ownsRow.lt T6.o1 _ e).2;omega) c15
           refine ax (i:=16) rfl (by kernel_rfl) rfl (fun K hK=>?_)
           refine aQ rfl ?_
           refine aJ 26 Tryz.underlying26 rfl (.tmp 84) (.tmp 91) rfl wp.heap.size _ _ z2 rfl T7.o2 w6.heap.size rfl c15' hLen2 (by have:=HBG.out;have:=hS7.size;omega) ?_
           intro vb w16 A16
           have hS16:=A16.below T7.o2 hS7 (Cd _) (by have:=HBG.out;have:=hS7.size;omega)
           have T16:=A16.two T7
           refine⟨rfl,hK _ _ (fun _ _=>hS16) ?_⟩
           clear hK K
           try simp only[Act.put,Ca,B_,B9,B4,Cb,Cc]
           refine ai (i:=17) (v:=?vv17Bq) rfl (by kernel_rfl) (fun _ _ _ h=>h) rfl ?hy17Bq ?rest17Bq
           case hy17Bq=>(intro wy;go_simp;try with_reducible rfl)
           try simp only[Act.put,Ca,B_,B9,B4,Cb,Cc]
           refine ai (i:=18) (v:=?vv18Bq) rfl (by kernel_rfl) (fun _ _ _ h=>h) rfl ?hy18Bq ?rest18Bq
           case hy18Bq=>(intro wy;go_simp;try with_reducible rfl)
           try simp only[Act.put,Ca,B_,B9,B4,Cb,Cc]
           refine aS (by kernel_rfl) ?_ _
           simp only[bL]
           have TT:=T16
           rw[←HT1.out,←HT2.out] at TT
           have BB:=HBD.out.trans hS16
           have HTT:=BZ TT
           have HBB:=BZ BB
           clear TT BB T6 T7 T15 T16 A7 A16 hS hS6 hS7 hS15 hS16 hTd c6 c15 c6' c15'
           go_wp2
           go_roundw
           case rel=>exact⟨k+1,by go_num,by omega,HTT.out,HBB.out⟩
           case measure=>(first | (simp[intOf];done) | (simp[intOf];omega))
         ·go_simp
          have hS15:=hS.alloc (by have:=HBG.out;have:=hS.size;omega) (.cells #[.string z2] 22)
          have T15:=hTd.alloc (.cells #[.string z2] 22)
          refine hK _ _ (fun _ _=>hS15) ?_
          clear hK K
          try simp only[Act.put,Ca,B_,B9,B4,Cb,Cc]
          have c15:=am wd #[.string z2] 22 0 _ rfl
          have s15:=BZ (size_alloc wd (.cells #[.string z2] 22))
          generalize wd.alloc (.cells #[.string z2] 22)=w15 at *
          refine ax (i:=6) rfl (by kernel_rfl) rfl (fun K hK=>?_)
          go_simp
          have hS6:=hS15.alloc (by have:=HBG.out;have:=hS15.size;omega) (.cells #[.string z1] 22)
          have T6:=T15.alloc (.cells #[.string z1] 22)
          refine hK _ _ (fun _ _=>hS6) ?_
          clear hK K
          try simp only[Act.put,Ca,B_,B9,B4,Cb,Cc]
          have c6:=am w15 #[.string z1] 22 0 _ rfl
          have c15':=aa (ae w15 (.cells #[.string z1] 22)) (by have:=s15.out;omega) c15
          have s6:=BZ (size_alloc w15 (.cells #[.string z1] 22))
          refine ax (i:=7) rfl (by kernel_rfl) rfl (fun K hK=>?_)
          refine aQ rfl ?_
          refine aJ 26 Tryz.underlying26 rfl (.tmp 76) (.tmp 82) rfl wp.heap.size _ _ z1 rfl T6.o1 w15.heap.size rfl c6 hLen1 (by have:=HBG.out;have:=hS6.size;omega) ?_
          intro va w7 A7
          have hS7:=A7.below T6.o1 hS6 (Cd _) (by have:=HBG.out;have:=hS6.size;omega)
          have T7:=A7.one T6
          refine⟨rfl,hK _ _ (fun _ _=>hS7) ?_⟩
          clear hK K
          try simp only[Act.put,Ca,B_,B9,B4,Cb,Cc]
          have c15'':=A7.cell T6.o1 (b:=wd.heap.size) (o:=0) (fun e=>by have:=(World.ownsRow.lt hTd.o1 _ e).2;omega) c15'
          refine ax (i:=16) rfl (by kernel_rfl) rfl (fun K hK=>?_)
          refine aQ rfl ?_
          refine aJ 26 Tryz.underlying26 rfl (.tmp 84) (.tmp 91) rfl wp.heap.size _ _ z2 rfl T7.o2 wd.heap.size rfl c15'' hLen2 (by have:=HBG.out;have:=hS7.size;omega) ?_
          intro vb w16 A16
          have hS16:=A16.below T7.o2 hS7 (Cd _) (by have:=HBG.out;have:=hS7.size;omega)
          have T16:=A16.two T7
          refine⟨rfl,hK _ _ (fun _ _=>hS16) ?_⟩
          clear hK K
          try simp only[Act.put,Ca,B_,B9,B4,Cb,Cc]
          refine ai (i:=17) (v:=?vv17Cq) rfl (by kernel_rfl) (fun _ _ _ h=>h) rfl ?hy17Cq ?rest17Cq
          case hy17Cq=>(intro wy;go_simp;try with_reducible rfl)
          try simp only[Act.put,Ca,B_,B9,B4,Cb,Cc]
          refine ai (i:=18) (v:=?vv18Cq) rfl (by kernel_rfl) (fun _ _ _ h=>h) rfl ?hy18Cq ?rest18Cq
          case hy18Cq=>(intro wy;go_simp;try with_reducible rfl)
          try simp only[Act.put,Ca,B_,B9,B4,Cb,Cc]
          refine aS (by kernel_rfl) ?_ _
          simp only[bL]
          have TT:=T16
          rw[←HT1.out,←HT2.out] at TT
          have BB:=HBD.out.trans hS16
          have HTT:=BZ TT
          have HBB:=BZ BB
          clear TT BB T6 T7 T15 T16 A7 A16 hS hS6 hS7 hS15 hS16 hTd c6 c15 c15' c15''
          go_wp2
          go_roundw
          case rel=>exact⟨k+1,by go_num,by omega,HTT.out,HBB.out⟩
          case measure=>(first | (simp[intOf];done) | (simp[intOf];omega))
        ·have hks:k=m2:=by omega
         rw[decide_eq_false hk]
         rw[hks] at hT
         have hl1:(fb.take m2).length=m2:=by rw[Cw];have:=HM2.out;omega
         have hl2:(eG y t m2).length=m2:=by simp[eG]
         have hdt:=yx _ _ (fb.take m2) (eG y t m2) wc hT.o1.isS hT.o2.isS (by rw[hl1,hl2]) (by rw[hl1];have:=HM2.out;omega) (HG2.out.below hbr).g
         rw[HD2.out] at hdt
         have HDOT:=BZ hdt
         clear hdt hl1 hl2 hT kr hks hk hkm
         go_wp2_with fail
         refine HDOT.out.mono ?_
         rintro e w7 ⟨rfl,hb7⟩
         have HBF:=BZ (HBX.out.trans ((hbr.trans (hb7.mono hbr.size)).mono HBX.out.size))
         clear hb7 hbr HDOT
         go_wp2
         go_roundw
         case rel=>exact⟨t+1,by go_num,by omega,HBF.out⟩
         case measure=>(first | (simp[intOf];done) | (simp[intOf];omega))
  ·obtain rfl:t=N:=by omega
   go_wp2
   refine bodyPost_ret (v:=.bool true) (by simp[results,Tryz.results59,go_sem]) rfl ⟨rfl,M1.out.trans (hbr.mono M1.out.size)⟩
end Go.Proofs.YtdlioncecgnloaaGreatDoor
