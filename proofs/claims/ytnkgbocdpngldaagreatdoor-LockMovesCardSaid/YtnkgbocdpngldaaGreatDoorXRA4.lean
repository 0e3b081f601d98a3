/- Lemmas of this claim. -/
import Derived.Test.YtnkgbocdpngldaaGreatDoorXRA2
set_option linter.all false
set_option maxRecDepth 100000
set_option maxHeartbeats 8000000
namespace Go.Proofs.YtnkgbocdpngldaaGreatDoor
open Go.RowKit Dc Dg
theorem kQ (n low high:Int) (w:World) :
  Calls Tryz.prog 33 #[.int .i64 n,.int .i64 low,.int .i64 high] w fun e w'=>e=.returned (.bool (decide (low≤n)&&decide (n≤high)))∧Below w.heap.size w w' :=
 (iS n low high w).mono fun _ _ ⟨h,e⟩=>⟨h,by rw[e];exact Below.refl _ _⟩
theorem sh (gs:List Gd) (i:Nat) (n:Nd):dZ gs i n=((decide (0≤n.guard)&&decide (n.guard≤(i:Int)-1))&&f9 (ag gs n.guard.toNat) n.rungs):=by
 unfold dZ f9
 generalize kR (ag gs n.guard.toNat) n.rungs (-1)=b
 generalize (decide (0≤n.guard)&&decide (n.guard≤(i:Int)-1))=d
 by_cases h:n.rungs.length=0
 ·simp[h]
 ·rw[decide_eq_false h,decide_eq_true (by omega:0<n.rungs.length)]
  simp
theorem zQ (gs:List Gd) (p:Option Addr) (c:Nat) (i k:Nat) (w:World)
  (hG:bE w p gs) (hX:Gx w) (hi:i<gs.length) (hk:k<(ag gs i).length) (hfew:gs.length≤1000) (hrs:∀ j,j≤i→(ag gs j).length<1000000) (hfit:∀ r∈ag gs i,mK r) :
  Calls Tryz.prog 74 #[.agg #[.slice p gs.length c],.int .i64 i,.int .i64 k] w fun e w'=>e=.returned (.bool (fp gs i k))∧Below w.heap.size w w':=by
 obtain⟨bg,og,rfl,hbg,hcg⟩:=hG.at_ (by omega)
 obtain⟨q,cq,e0,e1,hR⟩:=hcg i hi
 obtain⟨g,hge⟩:∃ g,g=gs[i]:=⟨_,rfl⟩
 rw[←hge] at e0 e1 hR
 have hra:ag gs i=g.rungs:=by unfold ag;rw[C7 hi,hge]
 rw[hra] at hk hfit
 obtain⟨b,o,rfl,hbw,hcs⟩:=hR.at_ (by omega)
 obtain⟨q1,c1,q2,c2,hr⟩:=hcs k hk
 obtain⟨r,hre⟩:∃ r,r=g.rungs[k]:=⟨_,rfl⟩
 rw[←hre] at hr
 rw[show fp gs i k=dL gs i k g.rungs r by unfold fp;rw[hra,C7 hk,←hre]]
 have hgl:g.rungs.length<1000000:=by rw[←hra];exact hrs i (C6 _)
 have HRS:=C5 hrs
 have HRA:=C5 hra
 have HRE:=C5 hre
 have HGE:=C5 hge
 clear hrs hra hre hge hcg hcs
 have d0:=hr.d0;have d1:=hr.d1;have d2:=hr.d2;have d3:=hr.d3;have d4:=hr.d4;have d5:=hr.d5;have d6:=hr.d6
 have S0:=RSt.new w gs (some ⟨bg,og,none⟩) c g (some ⟨b,o,none⟩) cq r q1 c1 q2 c2 hG hR hr.n hr.l hX
 have hfr:mK r:=hfit r (by rw[HRE.out];exact Dt hk)
 have HFR:=C5 hfr
 have HK:=C5 hk
 clear hr hfit hfr hG hR hX
 go_enter Tryz.func74,Tryz.ntmps74
 go_upto_region 3 with fail
 generalize ((w.alloc (.cells #[.slice (some ⟨bg,og,none⟩) gs.length c] 24)).alloc (.cells #[.string g.name,.slice (some ⟨b,o,none⟩) g.rungs.length cq] 62)).alloc (.cells #[.string r.name,.string r.next,.string r.back,.int .i64 r.tries,.int .i64 r.minutes,.slice q1 r.needs.length c1,.slice q2 r.loops.length c2] 59)=w0 at S0 ⊢
 clear e0 e1 d0 d1 d2 d3 d4 d5 d6
 go_cut [53] from 24 to 53 (fun s53 wx=>∃ bw:Bool,s53=.bool bw∧Hid ((cS g.rungs k r&&dx g.rungs g.rungs.length k)=!bw)∧RSt w wx w.heap.size gs (some ⟨bg,og,none⟩) c g (some ⟨b,o,none⟩) cq r q1 c1 q2 c2)
 case first =>
  have r0:=S0.r0
  go_wp2_with fail
  refine (nz r.name w0).mono ?_
  rintro e w1 ⟨rfl,rfl⟩
  obtain⟨bn,hbn⟩:∃ b,b=bF r.name.data.toList:=⟨_,rfl⟩
  rw[←hbn]
  have HBN:=C5 hbn
  clear hbn
  cases bn
  ·have HS:Hid ((cS g.rungs k r&&dx g.rungs g.rungs.length k)=false):=by unfold Hid cS;rw[←HBN.out];rfl
   go_wp2
   go_meet
   exact⟨true,rfl,HS.out,S0⟩
  ·have g0:=S0.g0;have g1:=S0.g1
   go_wp2_with fail
   refine (fG g.name _ cq g.rungs r.name _ S0.R hgl).mono ?_
   rintro e w2 ⟨rfl,hb2⟩
   have S1:=S0.below hb2
   clear S0 hb2 g0 g1 r0
   obtain⟨z1,hz1⟩:∃ z,z=aE g.rungs r.name.data.toList:=⟨_,rfl⟩
   rw[←hz1]
   have HZ1:=C5 hz1
   clear hz1
   by_cases hzk:z1=(k:Int)
   ·have hd2:(z1 != (k:Int))=false:=by simp[hzk]
    have HZ:=C5 hzk
    clear hzk
    have r3:=S1.r3
    go_wp2_with fail
    refine (iS r.tries 1 4 w2).mono ?_
    rintro e w3 ⟨rfl,hw3⟩
    obtain rfl:=hw3.symm
    obtain⟨bt,hbt⟩:∃ b,b=(decide (1≤r.tries)&&decide (r.tries≤4)):=⟨_,rfl⟩
    rw[←hbt]
    have HBT:=C5 hbt
    clear hbt r3
    cases bt
    ·have HS:Hid ((cS g.rungs k r&&dx g.rungs g.rungs.length k)=false):=by unfold Hid cS;rw[←HBT.out];simp
     go_wp2
     go_meet
     exact⟨true,rfl,HS.out,S1⟩
    ·have r4:=S1.r4
     go_wp2_with fail
     refine (iS r.minutes 1 60 w2).mono ?_
     rintro e w4 ⟨rfl,hw4⟩
     obtain rfl:=hw4.symm
     obtain⟨bm,hbm⟩:∃ b,b=(decide (1≤r.minutes)&&decide (r.minutes≤60)):=⟨_,rfl⟩
     rw[←hbm]
     have HBM:=C5 hbm
     clear hbm r4
     cases bm
     ·have HS:Hid ((cS g.rungs k r&&dx g.rungs g.rungs.length k)=false):=by unfold Hid cS;rw[←HBM.out];simp
      go_wp2
      go_meet
      exact⟨true,rfl,HS.out,S1⟩
     ·have g0:=S1.g0;have g1:=S1.g1
      go_wp2_with fail
      refine (yv g.name _ cq g.rungs k _ S1.R hgl HK.out).mono ?_
      rintro e w5 ⟨rfl,hb5⟩
      have S2:=S1.below hb5
      clear S1 hb5 g0 g1
      have HSELF:Hid (cS g.rungs k r=true):=by
       unfold Hid cS;rw[←HBN.out,←HBT.out,←HBM.out,←HZ1.out,decide_eq_true HZ.out];rfl
      obtain⟨be,hbe⟩:∃ b,b=dx g.rungs g.rungs.length k:=⟨_,rfl⟩
      rw[←hbe]
      have HBE:=C5 hbe
      clear hbe
      cases be
      ·have HS:Hid ((cS g.rungs k r&&dx g.rungs g.rungs.length k)=false):=by unfold Hid;rw[←HBE.out,Ex]
       go_wp2
       go_meet
       exact⟨true,rfl,HS.out,S2⟩
      ·have HS:Hid ((cS g.rungs k r&&dx g.rungs g.rungs.length k)=true):=by unfold Hid;rw[←HBE.out,HSELF.out];rfl
       go_wp2
       go_meet
       exact⟨false,rfl,HS.out,S2⟩
   ·have hd2:(z1 != (k:Int))=true:=by simpa using hzk
    have HZ:=C5 hzk
    clear hzk
    have HS:Hid ((cS g.rungs k r&&dx g.rungs g.rungs.length k)=false):=by unfold Hid cS;rw[←HZ1.out,decide_eq_false HZ.out];simp
    go_wp2
    go_meet
    exact⟨true,rfl,HS.out,S1⟩
 case rest =>
  obtain⟨bw,rfl,hse,S1⟩:=hcut
  clear S0
  cases bw
  ·have HSE:Hid ((cS g.rungs k r&&dx g.rungs g.rungs.length k)=true):=hse
   clear hse
   have g0:=S1.g0;have g1:=S1.g1;have r2:=S1.r2
   go_wp2_with fail
   refine (fG g.name _ cq g.rungs r.back _ S1.R hgl).mono ?_
   rintro e w5 ⟨rfl,hb5⟩
   have S2:=S1.below hb5
   clear S1 hb5 g0 g1 r2
   obtain⟨zb,hzb⟩:∃ z,z=aE g.rungs r.back.data.toList:=⟨_,rfl⟩
   rw[←hzb]
   have HZB:=C5 hzb
   have hzr:=bH g.rungs r.back.data.toList
   rw[←hzb] at hzr
   clear hzb
   go_upto_region 6 with fail
   go_cut [80] from 58 to 80 (fun s80 wx=>∃ bw:Bool,s80=.bool bw∧Hid (fQ g.rungs k r=!bw)∧RSt w wx w.heap.size gs (some ⟨bg,og,none⟩) c g (some ⟨b,o,none⟩) cq r q1 c1 q2 c2)
   case first =>
    by_cases hk0:k=0
    ·have hk1:((k:Int) == 0)=true:=by simp[hk0]
     have hk2:decide ((0:Int)<(k:Int))=false:=by simp;omega
     have D1:=decide_eq_true hk0
     have D2:decide (0<k)=false:=decide_eq_false (by omega)
     have hB:Hid (fQ g.rungs k r=!(!decide (zb=0)||decide (0<r.needs.length))):=by unfold Hid fQ;rw[←HZB.out,D1,D2];simp
     have hk3:¬ 0<k:=by omega
     clear hk0 D1 D2
     by_cases hz0:zb=0
     ·have hz1:(zb != 0)=false:=by simp[hz0]
      have r5:=S2.r5
      by_cases hnl:0<r.needs.length
      ·have HB2:Hid (fQ g.rungs k r=false):=by unfold Hid;rw[hB.out,decide_eq_true hnl,Bool.or_true];rfl
       clear hz0
       go_wp2
       go_meet
       exact⟨true,rfl,HB2.out,S2⟩
      ·have HB2:Hid (fQ g.rungs k r=true):=by unfold Hid;rw[hB.out,decide_eq_false hnl,decide_eq_true hz0];rfl
       clear hz0
       go_wp2
       go_meet
       exact⟨false,rfl,HB2.out,S2⟩
     ·have hz1:(zb != 0)=true:=by simpa using hz0
      have HB2:Hid (fQ g.rungs k r=false):=by unfold Hid;rw[hB.out,decide_eq_false hz0];rfl
      clear hz0
      go_wp2
      go_meet
      exact⟨true,rfl,HB2.out,S2⟩
    ·have hk1:((k:Int) == 0)=false:=by simp;omega
     have hk2:decide ((0:Int)<(k:Int))=true:=by simp;omega
     have D1:=decide_eq_false hk0
     have D2:decide (0<k)=true:=decide_eq_true (by omega)
     have hB:Hid (fQ g.rungs k r=(decide (0≤zb)&&decide (zb≤(k:Int)-1))):=by unfold Hid fQ;rw[←HZB.out,D1,D2];simp
     have hk3:0<k:=by omega
     clear hk0 D1 D2
     go_wp2_with fail
     refine (iS zb 0 ((k:Int)-1) w5).mono ?_
     rintro e w6 ⟨rfl,hw6⟩
     obtain rfl:=hw6.symm
     rw[←hB.out]
     obtain⟨bk,hbk⟩:∃ b,b=fQ g.rungs k r:=⟨_,rfl⟩
     rw[←hbk]
     have HB2:Hid (fQ g.rungs k r=bk):=hbk.symm
     clear hbk hB
     cases bk
     ·go_wp2
      go_meet
      exact⟨true,rfl,HB2.out,S2⟩
     ·go_wp2
      go_meet
      exact⟨false,rfl,HB2.out,S2⟩
   case rest =>
    obtain⟨bw,rfl,hbb,S3⟩:=hcut
    clear S2
    cases bw
    ·have HBB:Hid (fQ g.rungs k r=true):=hbb
     clear hbb
     have HRR:Hid (dL gs i k g.rungs r=(ez gs i r.needs&&eJ r.loops)):=by unfold Hid dL;rw[HSE.out,HBB.out];rfl
     clear HSE HBB hzr HZB
     have r5:=S3.r5
     have hnl:((r.needs.length:Nat):Int)≤1000000000000000:=by have:=HFR.out.needs;omega
     have hll:((r.loops.length:Nat):Int)≤1000000000000000:=by have:=HFR.out.loops;omega
     go_wp2_with fail
     go_loopw [10] (fun s10 wx=>∃ j:Nat,s10=.int .i64 j∧j≤r.needs.length∧RSt w wx w.heap.size gs (some ⟨bg,og,none⟩) c g (some ⟨b,o,none⟩) cq r q1 c1 q2 c2∧Hid ((List.range j).all (de gs i r.needs)=true)) (fun s10 _=>r.needs.length-(intOf s10).toNat)
     case atStart=>exact⟨0,rfl,by omega,S3,rfl⟩
     case round =>
      clear S3 r5
      obtain⟨j,rfl,hj,S3,hx⟩:=hrel
      have r5:=S3.r5
      by_cases hjl:j<r.needs.length
      ·obtain⟨nb,no,rfl,hnb,hnc⟩:=S3.N.at_ (by omega)
       obtain⟨qn,cn,m0,m1,hWn⟩:=hnc j hjl
       obtain⟨nd,hnd⟩:∃ nd,nd=r.needs[j]:=⟨_,rfl⟩
       rw[←hnd] at m0 m1 hWn
       have HND:=C5 (show r.needs[j]?=some nd by rw[C7 hjl,hnd])
       have hnn:nd.rungs.length≤1000000000000000:=HFR.out.names nd (by rw[hnd];exact Dt hjl)
       have HNC:=C5 hnc
       clear hnd hnc
       obtain⟨ng,names⟩:=nd
       simp only at m0 m1 hWn hnn
       have hl4:=bL wr (.cells #[.int .i64 ng,.slice qn names.length cn] 65)
       have S4:=S3.below hl4.below
       have HW4:=C5 (hWn.below hl4.below)
       have HPV:=C5 (fun j' (hj':j'<r.needs.length)=>(hl4.below.cell (p:=⟨nb,no+j'*2,none⟩) hnb).trans (Exists.elim (HNC.out j' hj') (fun _ h=>Exists.elim h (fun _ h=>h.1))))
       have hnbA:nb<(wr.alloc (.cells #[.int .i64 ng,.slice qn names.length cn] 65)).heap.size:=C8 hnb hl4.below.size
       have hrA:=hl4.s0
       go_upto_region 12 with fail
       clear m0 m1 hWn hl4 S3 r5 HNC
       generalize wr.alloc (.cells #[.int .i64 ng,.slice qn names.length cn] 65)=wa at *
       generalize wr.heap.size=gn at *
       have y0:=ay (by have:=S4.lt;show w.heap.size<_;omega) S4.s0
       have y1:∀ y:ax wa,y.w.cell? ⟨gn,0,none⟩=some (.int .i64 ng):=fun y=>(y.cell (ae hrA)).trans (aa hrA 0)
       have y2:∀ y:ax wa,y.w.cell? ⟨gn,1,none⟩=some (.slice qn names.length cn):=fun y=>(y.cell (ae hrA)).trans (aa hrA 1)
       have y3:=ay S4.lt S4.r5
       have HI:Hid (aQ wa 33 #[.int .i64 ng,.int .i64 0,.int .i64 ((i:Int)-1)] ((.bool (decide (0≤ng)&&decide (ng≤(i:Int)-1))))):=fun y=>ax.calls (kQ _ _ _ y.w)
       by_cases hin:0≤ng∧ng≤(i:Int)-1
       ·have hbi:(decide (0≤ng)&&decide (ng≤(i:Int)-1))=true:=by simp;omega
        obtain⟨jg,rfl⟩:∃ jg:Nat,ng=(jg:Int):=⟨ng.toNat,by omega⟩
        have hjg:jg<gs.length:=by omega
        have HNS:Hid (dZ gs i ⟨jg,names⟩=f9 (ag gs jg) names):=by unfold Hid;rw[sh];simp only[Dr];rw[hbi];rfl
        rw[hbi] at HI
        have hjr:(ag gs jg).length<1000000:=HRS.out jg (by omega)
        obtain⟨b',o',e',hlt',hc'⟩:=S4.G.at_ (by omega)
        obtain⟨rfl,rfl⟩:bg=b'∧og=o':=by simpa using e'
        obtain⟨qj,cj,u0,u1,hRj⟩:=hc' jg hjg
        have hraj:ag gs jg=gs[jg].rungs:=by unfold ag;rw[C7 hjg]
        obtain⟨gj,hgj⟩:∃ gj,gj=gs[jg]:=⟨_,rfl⟩
        rw[←hgj] at u0 u1 hRj hraj
        rw[hraj] at HNS hjr
        have y5:=ay hlt' u0
        have y6:=ay hlt' u1
        have HM:Hid (aQ wa 94 #[.agg #[.string gj.name,.slice qj gj.rungs.length cj],.slice qn names.length cn] ((.bool (f9 gj.rungs names)))):=fun y=>ax.calls (wK _ _ _ _ _ _ _ y.w (hRj.below y.h) (HW4.out.below y.h) hjr hnn)
        have hgjn:(jg:Int)<(gs.length:Int):=by omega
        have HIN:=C5 hin
        clear u0 u1 hRj hc' e' hraj hgj hbi hin HW4
        obtain⟨bm,hbm⟩:∃ b,b=f9 gj.rungs names:=⟨_,rfl⟩
        rw[←hbm] at HM HNS
        clear hbm
        by_cases hj0:0<j
        ·obtain⟨jp,rfl⟩:∃ jp,j=jp+1:=⟨j-1,by omega⟩
         have hjp:jp<r.needs.length:=by omega
         obtain⟨md,hmd⟩:∃ md,md=r.needs[jp]:=⟨_,rfl⟩
         have hpv:=HPV.out jp hjp
         rw[←hmd] at hpv
         have HMD:=C5 (show r.needs[jp]?=some md by rw[C7 hjp,hmd])
         have y4:=ay hnbA hpv
         have hjpI:((jp+1:Nat):Int)-1=(jp:Int):=by omega
         clear hmd hpv HPV
         obtain⟨mg,mnames⟩:=md
         simp only at y4
         by_cases hle:(jg:Int)≤mg
         ·have HNA:Hid (ez gs i r.needs=false):=dj hjl (by rw[dB HND.out HMD.out];simp only;rw[decide_eq_true hle,Bool.and_comm];rfl)
          refine ai (by kernel_rfl) (by kernel_rfl) ?_
          repeat (go_big_quiet_step ((first | (go_at_call 33;with_reducible exact HI.out _) | (go_at_call 94;with_reducible exact HM.out _))))
          refine wpQuiet_nil ?_
          rintro _ ⟨⟨w2,hbN⟩,rfl⟩
          have S6:=S4.below hbN
          clear HM HI y0 y1 y2 y3 S4 hbN
          have HRF:Hid (dL gs i k g.rungs r=false):=by unfold Hid;rw[HRR.out,HNA.out];rfl
          go_wp2
          go_ret
          exact⟨by rw[HRF.out];rfl,S6.bl⟩
         ·cases bm
          ·have HNA:Hid (ez gs i r.needs=false):=dj hjl (fK HND.out HNS.out)
           refine ai (by kernel_rfl) (by kernel_rfl) ?_
           repeat (go_big_quiet_step ((first | (go_at_call 33;with_reducible exact HI.out _) | (go_at_call 94;with_reducible exact HM.out _))))
           refine wpQuiet_nil ?_
           rintro _ ⟨⟨w2,hbN⟩,rfl⟩
           have S6:=S4.below hbN
           clear HM HI y0 y1 y2 y3 S4 hbN
           have HRF:Hid (dL gs i k g.rungs r=false):=by unfold Hid;rw[HRR.out,HNA.out];rfl
           go_wp2
           go_ret
           exact⟨by rw[HRF.out];rfl,S6.bl⟩
          ·have HNA:Hid ((List.range (jp+1+1)).all (de gs i r.needs)=true):=bG hx.out (by rw[dB HND.out HMD.out,HNS.out];simp only;rw[decide_eq_false hle];rfl)
           refine ai (by kernel_rfl) (by kernel_rfl) ?_
           repeat (go_big_quiet_step ((first | (go_at_call 33;with_reducible exact HI.out _) | (go_at_call 94;with_reducible exact HM.out _))))
           refine wpQuiet_nil ?_
           rintro _ ⟨⟨w2,hbN⟩,rfl⟩
           have S6:=S4.below hbN
           clear HM HI y0 y1 y2 y3 S4 hbN
           go_wp2
           go_roundw
           case rel=>exact⟨jp+1+1,by go_num,by omega,S6,HNA⟩
           case measure=>simp[intOf];omega
        ·obtain rfl:j=0:=by omega
         clear HPV
         cases bm
         ·have HNA:Hid (ez gs i r.needs=false):=dj hjl (fK HND.out HNS.out)
          refine ai (by kernel_rfl) (by kernel_rfl) ?_
          repeat (go_big_quiet_step ((first | (go_at_call 33;with_reducible exact HI.out _) | (go_at_call 94;with_reducible exact HM.out _))))
          refine wpQuiet_nil ?_
          rintro _ ⟨⟨w2,hbN⟩,rfl⟩
          have S6:=S4.below hbN
          clear HM HI y0 y1 y2 y3 S4 hbN
          have HRF:Hid (dL gs i k g.rungs r=false):=by unfold Hid;rw[HRR.out,HNA.out];rfl
          go_wp2
          go_ret
          exact⟨by rw[HRF.out];rfl,S6.bl⟩
         ·have HNA:Hid ((List.range (0+1)).all (de gs i r.needs)=true):=bG hx.out (by rw[fV HND.out,HNS.out])
          refine ai (by kernel_rfl) (by kernel_rfl) ?_
          repeat (go_big_quiet_step ((first | (go_at_call 33;with_reducible exact HI.out _) | (go_at_call 94;with_reducible exact HM.out _))))
          refine wpQuiet_nil ?_
          rintro _ ⟨⟨w2,hbN⟩,rfl⟩
          have S6:=S4.below hbN
          clear HM HI y0 y1 y2 y3 S4 hbN
          go_wp2
          go_roundw
          case rel=>exact⟨0+1,by go_num,by omega,S6,HNA⟩
          case measure=>simp[intOf];omega
       ·have hbi:(decide (0≤ng)&&decide (ng≤(i:Int)-1))=false:=by rw[DU];intro h;simp at h;exact hin h
        have HNS:Hid (dZ gs i ⟨ng,names⟩=false):=by unfold Hid;rw[sh];simp only;rw[hbi];rfl
        rw[hbi] at HI
        have HNA:Hid (ez gs i r.needs=false):=dj hjl (fK HND.out HNS.out)
        have HM:=HI
        clear hbi hin HPV HW4
        refine ai (by kernel_rfl) (by kernel_rfl) ?_
        repeat (go_big_quiet_step ((first | (go_at_call 33;with_reducible exact HI.out _) | (go_at_call 94;with_reducible exact HM.out _))))
        refine wpQuiet_nil ?_
        rintro _ ⟨⟨w2,hbN⟩,rfl⟩
        have S6:=S4.below hbN
        clear HM HI y0 y1 y2 y3 S4 hbN
        have HRF:Hid (dL gs i k g.rungs r=false):=by unfold Hid;rw[HRR.out,HNA.out];rfl
        go_wp2
        go_ret
        exact⟨by rw[HRF.out];rfl,S6.bl⟩
      ·obtain rfl:j=r.needs.length:=by omega
       have HNA:Hid (ez gs i r.needs=true):=hx.out
       have HRR2:Hid (dL gs i k g.rungs r=eJ r.loops):=by unfold Hid;rw[HRR.out,HNA.out];rfl
       clear hx hjl hj
       have r6:=S3.r6
       go_wp2_with fail
       go_loopw [12] (fun s12 wx=>∃ j:Nat,s12=.int .i64 j∧j≤r.loops.length∧RSt w wx w.heap.size gs (some ⟨bg,og,none⟩) c g (some ⟨b,o,none⟩) cq r q1 c1 q2 c2∧Hid ((List.range j).all (dm r.loops)=true)) (fun s12 _=>r.loops.length-(intOf s12).toNat)
       case atStart=>exact⟨0,rfl,by omega,S3,rfl⟩
       case round =>
        clear S3 r5 r6
        obtain⟨j,rfl,hj,S3,hx⟩:=hrel
        have r6:=S3.r6
        by_cases hjl:j<r.loops.length
        ·obtain⟨nb,no,rfl,hnb,hnc⟩:=S3.L.at_ (by omega)
         obtain⟨m0,m1⟩:=hnc j hjl
         obtain⟨nd,hnd⟩:∃ nd,nd=r.loops[j]:=⟨_,rfl⟩
         rw[←hnd] at m0 m1
         have HND:=C5 (show r.loops[j]?=some nd by rw[C7 hjl,hnd])
         have HNC:=C5 hnc
         clear hnd hnc
         obtain⟨ng,gain⟩:=nd
         simp only at m0 m1
         have hl4:=bL wr (.cells #[.int .i64 ng,.string gain] 136)
         have S4:=S3.below hl4.below
         have HPV:=C5 (fun j' (hj':j'<r.loops.length)=>(hl4.below.cell (p:=⟨nb,no+j'*2,none⟩) hnb).trans (HNC.out j' hj').1)
         have hnbA:nb<(wr.alloc (.cells #[.int .i64 ng,.string gain] 136)).heap.size:=C8 hnb hl4.below.size
         have hrA:=hl4.s0
         go_upto_region 18 with fail
         clear m0 m1 hl4 S3 r6 HNC
         generalize wr.alloc (.cells #[.int .i64 ng,.string gain] 136)=wa at *
         generalize wr.heap.size=gn at *
         have y1:∀ y:ax wa,y.w.cell? ⟨gn,0,none⟩=some (.int .i64 ng):=fun y=>(y.cell (ae hrA)).trans (aa hrA 0)
         have y2:∀ y:ax wa,y.w.cell? ⟨gn,1,none⟩=some (.string gain):=fun y=>(y.cell (ae hrA)).trans (aa hrA 1)
         have y3:=ay S4.lt S4.r6
         have HI:Hid (aQ wa 33 #[.int .i64 ng,.int .i64 0,.int .i64 7] ((.bool (decide (0≤ng)&&decide (ng≤7))))):=fun y=>ax.calls (kQ _ _ _ y.w)
         have HM:Hid (aQ wa 95 #[.string gain] ((.bool (dz gain.data.toList)))):=fun y=>ax.calls (yb gain y.w)
         have HB0:=C5 (rfl:(decide (0≤ng)&&decide (ng≤7))=(decide (0≤ng)&&decide (ng≤7)))
         obtain⟨bi,hbi⟩:∃ b,b=(decide (0≤ng)&&decide (ng≤7)):=⟨_,rfl⟩
         obtain⟨bm,hbm⟩:∃ b,b=dz gain.data.toList:=⟨_,rfl⟩
         rw[←hbi] at HI
         rw[←hbm] at HM
         have HBI:=C5 hbi
         have HBM:=C5 hbm
         clear hbi hbm HB0
         cases bi
         ·have HNA:Hid (eJ r.loops=false):=cD hjl (dV HND.out (by simp only;rw[←HBI.out];rfl))
          clear HPV
          refine ai (by kernel_rfl) (by kernel_rfl) ?_
          repeat (go_big_quiet_step ((first | (go_at_call 33;with_reducible exact HI.out _) | (go_at_call 95;with_reducible exact HM.out _))))
          refine wpQuiet_nil ?_
          rintro _ ⟨⟨w2,hbN⟩,rfl⟩
          have S6:=S4.below hbN
          clear HM HI y1 y2 y3 S4 hbN
          have HRF:Hid (dL gs i k g.rungs r=false):=by unfold Hid;rw[HRR2.out,HNA.out]
          go_wp2
          go_ret
          exact⟨by rw[HRF.out];rfl,S6.bl⟩
         ·by_cases hj0:0<j
          ·obtain⟨jp,rfl⟩:∃ jp,j=jp+1:=⟨j-1,by omega⟩
           have hjp:jp<r.loops.length:=by omega
           obtain⟨md,hmd⟩:∃ md,md=r.loops[jp]:=⟨_,rfl⟩
           have hpv:=HPV.out jp hjp
           rw[←hmd] at hpv
           have HMD:=C5 (show r.loops[jp]?=some md by rw[C7 hjp,hmd])
           have y4:=ay hnbA hpv
           have hjpI:((jp+1:Nat):Int)-1=(jp:Int):=by omega
           clear hmd hpv HPV
           obtain⟨mg,mgain⟩:=md
           simp only at y4
           by_cases hle:ng≤mg
           ·have HNA:Hid (eJ r.loops=false):=cD hjl (by rw[dA HND.out HMD.out];simp only;rw[decide_eq_true hle,Bool.and_comm];rfl)
            refine ai (by kernel_rfl) (by kernel_rfl) ?_
            repeat (go_big_quiet_step ((first | (go_at_call 33;with_reducible exact HI.out _) | (go_at_call 95;with_reducible exact HM.out _))))
            refine wpQuiet_nil ?_
            rintro _ ⟨⟨w2,hbN⟩,rfl⟩
            have S6:=S4.below hbN
            clear HM HI y1 y2 y3 S4 hbN
            have HRF:Hid (dL gs i k g.rungs r=false):=by unfold Hid;rw[HRR2.out,HNA.out]
            go_wp2
            go_ret
            exact⟨by rw[HRF.out];rfl,S6.bl⟩
           ·cases bm
            ·have HNA:Hid (eJ r.loops=false):=cD hjl (dV HND.out (by simp only;rw[←HBI.out,←HBM.out];rfl))
             refine ai (by kernel_rfl) (by kernel_rfl) ?_
             repeat (go_big_quiet_step ((first | (go_at_call 33;with_reducible exact HI.out _) | (go_at_call 95;with_reducible exact HM.out _))))
             refine wpQuiet_nil ?_
             rintro _ ⟨⟨w2,hbN⟩,rfl⟩
             have S6:=S4.below hbN
             clear HM HI y1 y2 y3 S4 hbN
             have HRF:Hid (dL gs i k g.rungs r=false):=by unfold Hid;rw[HRR2.out,HNA.out]
             go_wp2
             go_ret
             exact⟨by rw[HRF.out];rfl,S6.bl⟩
            ·have HNA:Hid ((List.range (jp+1+1)).all (dm r.loops)=true):=bG hx.out (by rw[dA HND.out HMD.out];simp only;rw[←HBI.out,←HBM.out,decide_eq_false hle];rfl)
             refine ai (by kernel_rfl) (by kernel_rfl) ?_
             repeat (go_big_quiet_step ((first | (go_at_call 33;with_reducible exact HI.out _) | (go_at_call 95;with_reducible exact HM.out _))))
             refine wpQuiet_nil ?_
             rintro _ ⟨⟨w2,hbN⟩,rfl⟩
             have S6:=S4.below hbN
             clear HM HI y1 y2 y3 S4 hbN
             go_wp2
             go_roundw
             case rel=>exact⟨jp+1+1,by go_num,by omega,S6,HNA⟩
             case measure=>simp[intOf];omega
          ·obtain rfl:j=0:=by omega
           clear HPV
           cases bm
           ·have HNA:Hid (eJ r.loops=false):=cD hjl (dV HND.out (by simp only;rw[←HBI.out,←HBM.out];rfl))
            refine ai (by kernel_rfl) (by kernel_rfl) ?_
            repeat (go_big_quiet_step ((first | (go_at_call 33;with_reducible exact HI.out _) | (go_at_call 95;with_reducible exact HM.out _))))
            refine wpQuiet_nil ?_
            rintro _ ⟨⟨w2,hbN⟩,rfl⟩
            have S6:=S4.below hbN
            clear HM HI y1 y2 y3 S4 hbN
            have HRF:Hid (dL gs i k g.rungs r=false):=by unfold Hid;rw[HRR2.out,HNA.out]
            go_wp2
            go_ret
            exact⟨by rw[HRF.out];rfl,S6.bl⟩
           ·have HNA:Hid ((List.range (0+1)).all (dm r.loops)=true):=bG hx.out (by rw[fT HND.out];simp only;rw[←HBI.out,←HBM.out];rfl)
            refine ai (by kernel_rfl) (by kernel_rfl) ?_
            repeat (go_big_quiet_step ((first | (go_at_call 33;with_reducible exact HI.out _) | (go_at_call 95;with_reducible exact HM.out _))))
            refine wpQuiet_nil ?_
            rintro _ ⟨⟨w2,hbN⟩,rfl⟩
            have S6:=S4.below hbN
            clear HM HI y1 y2 y3 S4 hbN
            go_wp2
            go_roundw
            case rel=>exact⟨0+1,by go_num,by omega,S6,HNA⟩
            case measure=>simp[intOf];omega
        ·obtain rfl:j=r.loops.length:=by omega
         have HRT:Hid (dL gs i k g.rungs r=true):=by unfold Hid;rw[HRR2.out];exact hx.out
         clear hx hjl hj
         go_wp2
         go_ret
         exact⟨by rw[HRT.out];rfl,S3.bl⟩
    ·have HRR:Hid (dL gs i k g.rungs r=false):=by unfold Hid dL;rw[HSE.out,hbb.out];rfl
     clear hbb
     go_wp2
     go_ret
     exact⟨by rw[HRR.out];rfl,S3.bl⟩
  ·have HRR:Hid (dL gs i k g.rungs r=false):=by unfold Hid dL;rw[hse.out];rfl
   clear hse
   go_wp2
   go_ret
   exact⟨by rw[HRR.out];rfl,S1.bl⟩
end Go.Proofs.YtnkgbocdpngldaaGreatDoor
