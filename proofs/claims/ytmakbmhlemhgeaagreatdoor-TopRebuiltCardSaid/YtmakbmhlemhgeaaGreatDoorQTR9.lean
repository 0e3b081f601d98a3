/- L -/
import Derived.Test.YtmakbmhlemhgeaaGreatDoorQTR6
import Derived.Test.YtmakbmhlemhgeaaGreatDoorQB
set_option linter.all false
set_option maxRecDepth 100000
set_option maxHeartbeats 8000000
namespace Go.Proofs.YtmakbmhlemhgeaaGreatDoor
open Go.RowKit Dg
theorem k_ {z n lo hi:Int} (h:n=max lo (min z hi)) (w:World) :
  Calls Tryz.prog 5 #[.int .i64 z,.int .i64 lo,.int .i64 hi] w fun e w'=>e=.returned (.int .i64 n)/\w'=w:=by
 rw[h];exact qc z lo hi w
theorem jF (vt:Value) (lt:List Int) (vs:Value) (ls:List Int) (w:World) (hT:IsZ w vt lt) (hS:IsZ w vs ls) (hG:Gx w) :
  Calls Tryz.prog 3 #[vt,vs] w fun e w'=>e=.returned (.bool true)/\Below w.heap.size w w':=by
 obtain⟨pt,ct,rfl,-⟩:=id hT.form;obtain⟨ps,cs,rfl,-⟩:=id hS.form;have HT:=ri hT;have HS:=ri hS;have HG:=ri hG;clear hT hS hG
 have st:gd w (((w.alloc (.cells #[.int .i64 1,.int .i64 1] 24)).alloc (.cells #[.slice (some ⟨w.heap.size,0,none⟩) 1 1,.int .i64 0] 27)).alloc (.cells #[.int .i64 0] 3)) (w.heap.size+1)
   (.slice (some ⟨w.heap.size+1+1,0,none⟩) 1 1) (.slice (some ⟨w.heap.size,0,none⟩) 1 1) [] []:=by
  have z1:=af w (.cells #[.int .i64 1,.int .i64 1] 24);have o1:=lz w 24 (cs:=#[.int .i64 1,.int .i64 1]) (k:=2) (n:=1) (xs:=cM ([1].map two)) rfl rfl (by decide) w.heap.size (rp _);have b1:=ae w (.cells #[.int .i64 1,.int .i64 1] 24);generalize w.alloc (.cells #[.int .i64 1,.int .i64 1] 24)=w1 at *
  have z2:=af w1 (.cells #[.slice (some ⟨w.heap.size,0,none⟩) 1 1,.int .i64 0] 27);have n2:=heap_alloc_new w1 (.cells #[.slice (some ⟨w.heap.size,0,none⟩) 1 1,.int .i64 0] 27);have b2:=ae w1 (.cells #[.slice (some ⟨w.heap.size,0,none⟩) 1 1,.int .i64 0] 27);have o1:=World.ownsRow.alloc o1 (.cells #[.slice (some ⟨w.heap.size,0,none⟩) 1 1,.int .i64 0] 27);generalize w1.alloc (.cells #[.slice (some ⟨w.heap.size,0,none⟩) 1 1,.int .i64 0] 27)=w2 at *
  have o2:=lz w2 3 (cs:=#[.int .i64 0]) (k:=1) (n:=1) (xs:=[0].map (.int .i64)) rfl rfl (by decide) w.heap.size (by omega);have b3:=ae w2 (.cells #[.int .i64 0] 3);have o1:=World.ownsRow.alloc o1 (.cells #[.int .i64 0] 3);rw[z2,z1] at o2;rw[z1] at n2;exact⟨o2,o1,(b3.block _ (by omega)).trans n2,(b1.trans (b2.mono b1.size)).trans (b3.mono (by have:=b2.size;omega)),by omega⟩
 go_enter Tryz.func3,Tryz.ntmps3;go_upto_region 4 with fail
 generalize ((w.alloc (.cells #[.int .i64 1,.int .i64 1] 24)).alloc (.cells #[.slice (some ⟨w.heap.size,0,none⟩) 1 1,.int .i64 0] 27)).alloc (.cells #[.int .i64 0] 3)=w1 at *
 have ST:=ri st;clear st;obtain⟨bx,hbx⟩:∃ bx,bx=w.heap.size+1:=⟨_,rfl⟩;obtain⟨vi,hvi⟩:∃ vi,vi=Value.slice (some ⟨w.heap.size+1+1,0,none⟩) 1 1:=⟨_,rfl⟩;rw[<-hvi,<-hbx] at ST |-;clear hvi hbx;obtain⟨m1,hm1⟩:∃ m1,m1=min lt.length 6:=⟨_,rfl⟩;obtain⟨m2,hm2⟩:∃ m2,m2=min ls.length 12:=⟨_,rfl⟩;have HM1:=ri hm1;have HM2:=ri hm2;clear hm1 hm2;go_loopw [6,7] (fun s6 s7 wr=>∃ i:Nat,∃ vt,s7=.int .i64 i/\i<=m1/\Hid (gd w wr bx s6 vt (clL 3 lt i) (clL 3 lt i))) (fun _ s7 _=>m1-(intOf s7).toNat)
 case atStart=>exact⟨0,_,rfl,rH _,ST.out⟩
 case round =>
  obtain⟨i,vt,rfl,him,hst⟩:=hrel;go_upto_region 4 with fail
  go_cut [40] from 33 to 40 (fun s40 wx=>s40=.bool (decide (i<m1))/\wx=wr)
  case first =>
   by_cases hka:i<lt.length
   ·by_cases hkt:i<6
    ·have hd:decide (i<m1)=true:=decide_eq_true (by rw[HM1.out];omega);go_wp2;go_meet;exact⟨by rw[hd];simp;omega,rfl⟩
    ·have hd:decide (i<m1)=false:=decide_eq_false (by rw[HM1.out];omega);have hkt2:decide (i<6)=false:=decide_eq_false hkt;go_wp2;go_meet;exact⟨by rw[hd];simp;omega,rfl⟩
   ·have hd:decide (i<m1)=false:=decide_eq_false (by rw[HM1.out];omega);go_wp2;go_meet;exact⟨by rw[hd],rfl⟩
  case rest =>
   obtain⟨rfl,hww⟩:=hcut;subst hww;by_cases hk:i<m1
   ·have hi1:i<lt.length:=by have:=HM1.out;omega
    have hi2:i<6:=by have:=HM1.out;omega
    rw[decide_eq_true hk];obtain⟨bt,ot,rfl,hbt,hct⟩:=(HT.out.below hst.out.bl).all (by omega);have e0:=hct i hi1;obtain⟨z,hz⟩:∃ z,z=lt.getD i 0:=⟨_,rfl⟩;obtain⟨n,hn⟩:∃ n,n=cl 3 z:=⟨_,rfl⟩;rw[<-hz] at e0;have HN:=ri hn;have HE:=ri (show clL 3 lt (i+1)=clL 3 lt i++[n] by rw[jo 3 lt hi1,hn,hz]);have HLN:=ri (fR 3 lt i);generalize clL 3 lt i=L at *
    clear hct hz hn;go_wp2_with fail
    refine (k_ (z:=z) (n:=n) (lo:=-3) (hi:=3) HN.out _).mono ?_;rintro e w2 ⟨rfl,rfl⟩;clear HN e0;go_wp2_with (at_builtin;refine b_ 22 Tryz.underlying22 rfl (.tmp 48) (.tmp 50) rfl w.heap.size _ _ n rfl hst.out.own rfl (by rw[rM,HLN.out];omega) hst.out.bl.size ?_)
    intro v6 w6 ho6 hg6 hb6;have hst:=ri (hst.out.list ho6 hg6 hb6);clear ho6 hg6 hb6;have c0:=ag hst.out.box 0;simp only[tg,tw] at c0;go_wp2_with (at_builtin;refine bO 25 24 Tryz.underlying25 oZ rfl (.tmp 53) (.tmp 57) rfl w.heap.size _ _ n rfl hst.out.taps rfl (by rw[rM,HLN.out];omega) hst.out.bl.size ?_)
    intro v7 w7 ho7 hg7 hb7;obtain⟨hbox,h2⟩:=hst.out.tap ho7 hg7 hb7;obtain⟨p7,c7,rfl,-⟩:=id ho7.isZZ.form;have k0:=ag hbox 0;have f0:=an hbox 0;rw[show ((1:Int) :: (L++[n])).length=L.length+1+1 by simp] at h2;have hst:=ri h2;clear ho7 hg7 hb7 h2 c0 hbox;simp only[tg,tw] at k0;go_wp2;go_roundw;case rel=>exact⟨i+1,_,by go_num,by omega,by rw[HE.out];exact hst⟩
    case measure=>simp[intOf];omega
   ·have hie:i=m1:=by omega
    rw[decide_eq_false hk];subst hie;have ST:=hst;clear hst hk him;rename World=>wo;obtain⟨L,hL⟩:∃ L,L=clL 3 lt i:=⟨_,rfl⟩;rw[<-hL] at ST;have HL6:=ri (show L.length<=6 by rw[hL,fR];have:=HM1.out;omega);have HL3:=ri (show ∀ z∈L,z.natAbs<=3 by rw[hL];exact ia (a:=3));clear hL;go_upto_region 11 with fail
    go_loopw [9,10] (fun s9 s10 wr=>∃ j:Nat,s10=.int .i64 j/\j<=m2/\dU wr wo.heap.size s9 (clL 100 ls j)/\Below wo.heap.size wo wr) (fun _ s10 _=>m2-(intOf s10).toNat)
    case atStart=>exact⟨0,rfl,rH _,dU.nil _ _,t_ _ _⟩
    case round =>
     obtain⟨j,rfl,hjm,hown,hbr⟩:=hrel;go_upto_region 11 with fail
     go_cut [67] from 60 to 67 (fun s67 wx=>s67=.bool (decide (j<m2))/\wx=wr)
     case first =>
      by_cases hka:j<ls.length
      ·by_cases hkt:j<12
       ·have hd:decide (j<m2)=true:=decide_eq_true (by rw[HM2.out];omega);go_wp2;go_meet;exact⟨by rw[hd];simp;omega,rfl⟩
       ·have hd:decide (j<m2)=false:=decide_eq_false (by rw[HM2.out];omega);have hkt2:decide (j<12)=false:=decide_eq_false hkt;go_wp2;go_meet;exact⟨by rw[hd];simp;omega,rfl⟩
      ·have hd:decide (j<m2)=false:=decide_eq_false (by rw[HM2.out];omega);go_wp2;go_meet;exact⟨by rw[hd],rfl⟩
     case rest =>
      obtain⟨rfl,hww⟩:=hcut;subst hww;by_cases hk:j<m2
      ·have hi1:j<ls.length:=by have:=HM2.out;omega
       have hi2:j<12:=by have:=HM2.out;omega
       rw[decide_eq_true hk];obtain⟨bt,ot,rfl,hbt,hct⟩:=((HS.out.below ST.out.bl).below hbr).all (by omega);have e0:=hct j hi1;obtain⟨z,hz⟩:∃ z,z=ls.getD j 0:=⟨_,rfl⟩;obtain⟨n,hn⟩:∃ n,n=cl 100 z:=⟨_,rfl⟩;rw[<-hz] at e0;have HN:=ri hn;have HE:=ri (show clL 100 ls (j+1)=clL 100 ls j++[n] by rw[jo 100 ls hi1,hn,hz]);have HLN:=ri (fR 100 ls j);generalize clL 100 ls j=X at *
       clear hct hz hn;go_wp2_with fail
       refine (k_ (z:=z) (n:=n) (lo:=-100) (hi:=100) HN.out _).mono ?_;rintro e w2 ⟨rfl,rfl⟩;clear HN e0;go_wp2_with (at_builtin;refine b_ 22 Tryz.underlying22 rfl (.tmp 70) (.tmp 76) rfl wo.heap.size _ _ n rfl hown rfl (by rw[HLN.out];omega) hbr.size ?_)
       intro v6 w6 ho6 hg6 hb6;have hb7:=hb6 _ _ hbr (rp _);rw[<-HE.out] at ho6;have HO:=ri ho6;have HB:=ri hb7;clear ho6 hg6 hb6 hb7 hown hbr;go_wp2;go_roundw;case rel=>exact⟨j+1,by go_num,by omega,HO.out,HB.out⟩
       case measure=>simp[intOf];omega
      ·have hie:j=m2:=by omega
       rw[decide_eq_false hk];subst hie;obtain⟨X,hX⟩:∃ X,X=clL 100 ls j:=⟨_,rfl⟩;rw[<-hX] at hown;have HX12:=ri (show X.length<=12 by rw[hX,fR];have:=HM2.out;omega);have HX100:=ri (show ∀ z∈X,z.natAbs<=100 by rw[hX];exact ia (a:=100));have HXO:=ri hown.isZ;have HBR:=ri hbr;clear hX hown hbr hk hjm;rename World=>wp;have R2:=ri (qC ST.out HBR.out HXO.out HG.out);obtain⟨W,C,hW,hC,oW,oC,hlaw⟩:=j3 HL3.out HL6.out HX100.out HX12.out;have HW:=ri (And.intro hW hC);have HO:=ri (And.intro oW oC);have HLAW:=ri hlaw;obtain⟨px,cx,hux,-⟩:=id HXO.out.form;subst hux;clear hW hC oW oC hlaw HBR HXO ST HG HS HT HM1 HM2;go_wp2_with fail
       refine (kj _ (0 :: L) _ R2.out.i (by have:=HL6.out;simp;omega) (fun z hz=>by have:=a_ (c:=0) (by decide) HL3.out z hz;omega) R2.out.g.g).mono ?_;rintro e w3 ⟨p1,c1,rfl,h1,hb⟩;have R2:=ri (R2.out.below hb);have H1:=ri h1;clear hb h1;go_wp2_with fail
       refine (kj _ X _ R2.out.x (by have:=HX12.out;omega) (fun z hz=>by have:=HX100.out z hz;omega) R2.out.g.g).mono ?_;rintro e w4 ⟨p2,c2,rfl,h2,hb⟩;have R2:=ri (R2.out.below hb);have H1:=ri (H1.out.below hb);have H2:=ri h2;clear hb h2;go_wp2_with fail
       have HY:=ri (show IsS w4 (.slice p2 X.length c2) (X.map itz) from H2.out);have s1:=eC w4 32 (cs:=#[.string ⟨#[49]⟩]) (l:=[⟨#[49]⟩]) rfl (by decide);have b1:=ae w4 (.cells #[.string ⟨#[49]⟩] 32);have z1:=af w4 (.cells #[.string ⟨#[49]⟩] 32);generalize w4.alloc (.cells #[.string ⟨#[49]⟩] 32)=w5 at *
       have kk:=bc w5 (.slice p1 (L.length+1) c1) (.slice (some ⟨w4.heap.size,0,none⟩) 1 1);have b2:=ae w5 (.cells #[.slice p1 (L.length+1) c1,.slice (some ⟨w4.heap.size,0,none⟩) 1 1] 34);have z2:=af w5 (.cells #[.slice p1 (L.length+1) c1,.slice (some ⟨w4.heap.size,0,none⟩) 1 1] 34);generalize w5.alloc (.cells #[.slice p1 (L.length+1) c1,.slice (some ⟨w4.heap.size,0,none⟩) 1 1] 34)=w6 at *
       obtain⟨gf,hgf⟩:∃ g,g=w4.heap.size+1:=⟨_,rfl⟩;obtain⟨qf,hqf⟩:∃ q:Option Addr,q=some ⟨w4.heap.size,0,none⟩:=⟨_,rfl⟩;rw[z1,<-hgf] at kk;rw[<-hqf] at kk s1;have HIL:=ri (show (bI L).length=L.length+1 by simp[bI]);have HQ:=ri (show jg w6 gf p1 c1 qf 1 (bI L) [⟨#[49]⟩] from⟨by rw[HIL.out];exact kk.1,kk.2,by rw[HIL.out];exact (H1.out.below b1).below b2,s1.below b2,by omega⟩);rw[<-hqf,<-hgf];have R2:=ri (R2.out.below b1);have HY:=ri (HY.out.below b1);try have HQ:=ri (HQ.out.below b1)
       try have HQL:=ri (HQL.out.below b1)
       try have HQC:=ri (HQC.out.below b1)
       try have HWR:=ri (HWR.out.below b1)
       try have HCO:=ri (HCO.out.below b1)
       try have HER:=ri (HER.out.below b1)
       have R2:=ri (R2.out.below b2);have HY:=ri (HY.out.below b2);try have HQ:=ri (HQ.out.below b2)
       try have HQL:=ri (HQL.out.below b2)
       try have HQC:=ri (HQC.out.below b2)
       try have HWR:=ri (HWR.out.below b2)
       try have HCO:=ri (HCO.out.below b2)
       try have HER:=ri (HER.out.below b2)
       clear kk b1 b2 z1 z2 s1 hgf hqf H1 H2;have hF:=HQ.out.F;rw[HIL.out] at hF;refine (np _ (bI L) [⟨#[49]⟩] _ _ _ w6 (nq HL3.out HL6.out) hF R2.out.g).mono ?_;clear hF;rintro e w7 ⟨p3,c3,p4,c4,rfl,g1,g2,hb⟩;have R2:=ri (R2.out.below hb);have HY:=ri (HY.out.below hb);try have HQ:=ri (HQ.out.below hb)
       try have HQL:=ri (HQL.out.below hb)
       try have HQC:=ri (HQC.out.below hb)
       try have HWR:=ri (HWR.out.below hb)
       try have HCO:=ri (HCO.out.below hb)
       try have HER:=ri (HER.out.below hb)
       clear hb;go_upto_region 18 with fail
       have kk:=bc w7 (.slice p3 1 c3) (.slice p4 (aM L).length c4);have b2:=ae w7 (.cells #[.slice p3 1 c3,.slice p4 (aM L).length c4] 34);have z2:=af w7 (.cells #[.slice p3 1 c3,.slice p4 (aM L).length c4] 34);generalize w7.alloc (.cells #[.slice p3 1 c3,.slice p4 (aM L).length c4] 34)=w8 at *
       obtain⟨gl,hgl⟩:∃ g,g=w7.heap.size:=⟨_,rfl⟩;rw[<-hgl] at kk |-;have HQL:=ri (show jg w8 gl p3 c3 p4 c4 [⟨#[49]⟩] (aM L) from⟨kk.1,kk.2,g1.below b2,g2.below b2,by omega⟩);have R2:=ri (R2.out.below b2);have HY:=ri (HY.out.below b2);try have HQ:=ri (HQ.out.below b2)
       try have HQL:=ri (HQL.out.below b2)
       try have HQC:=ri (HQC.out.below b2)
       try have HWR:=ri (HWR.out.below b2)
       try have HCO:=ri (HCO.out.below b2)
       try have HER:=ri (HER.out.below b2)
       clear kk b2 z2 hgl g1 g2;have k0:=HQ.out.f0;have k1:=HQ.out.f1;rw[HIL.out] at k0;simp only[rM,r8,sk] at k1;go_wp2_with fail
       have hF:=HQ.out.F;rw[HIL.out] at hF;refine (mP _ (bI L) [⟨#[49]⟩] _ _ _ w8 (kw HL3.out HL6.out) hF R2.out.g).mono ?_;clear hF k0 k1;rintro e w9 ⟨p5,c5,p6,c6,rfl,g1,g2,hb⟩;have R2:=ri (R2.out.below hb);have HY:=ri (HY.out.below hb);try have HQ:=ri (HQ.out.below hb)
       try have HQL:=ri (HQL.out.below hb)
       try have HQC:=ri (HQC.out.below hb)
       try have HWR:=ri (HWR.out.below hb)
       try have HCO:=ri (HCO.out.below hb)
       try have HER:=ri (HER.out.below hb)
       clear hb HQ;go_upto_region 19 with fail
       have kk:=bc w9 (.slice p5 (bI L).length c5) (.slice p6 (aM L).length c6);have b2:=ae w9 (.cells #[.slice p5 (bI L).length c5,.slice p6 (aM L).length c6] 34);have z2:=af w9 (.cells #[.slice p5 (bI L).length c5,.slice p6 (aM L).length c6] 34);generalize w9.alloc (.cells #[.slice p5 (bI L).length c5,.slice p6 (aM L).length c6] 34)=w10 at *
       obtain⟨gc,hgc⟩:∃ g,g=w9.heap.size:=⟨_,rfl⟩;rw[<-hgc] at kk |-;have HQC:=ri (show jg w10 gc p5 c5 p6 c6 (bI L) (aM L) from⟨kk.1,kk.2,g1.below b2,g2.below b2,by omega⟩);have R2:=ri (R2.out.below b2);have HY:=ri (HY.out.below b2);try have HQ:=ri (HQ.out.below b2)
       try have HQL:=ri (HQL.out.below b2)
       try have HQC:=ri (HQC.out.below b2)
       try have HWR:=ri (HWR.out.below b2)
       try have HCO:=ri (HCO.out.below b2)
       try have HER:=ri (HER.out.below b2)
       clear kk b2 z2 hgc g1 g2;have k0:=HQL.out.f0;have k1:=HQL.out.f1;simp only[rM,r8,sk] at k0;go_wp2_with fail
       have HCK1:=ri (eQ (l:=[⟨#[49]⟩]) e_ HL3.out HL6.out);have HCK2:=ri (eQ (l:=bI L) (dQ (a_ (c:=0) (by decide) HL3.out) (by simp) (by have:=HL6.out;simp;omega)) HL3.out HL6.out);have HYL:=ri (show (X.map itz).length=X.length by simp);refine (pT _ _ [⟨#[49]⟩] (aM L) (X.map itz) (W.map itz) w10 (j4 HCK1.out HX100.out HX12.out) (by rw[HYL.out];exact HO.out.1) HQL.out.F HY.out R2.out.g).mono ?_;clear k0 k1;rintro e w11 ⟨p7,c7,rfl,h7,hb⟩;have R2:=ri (R2.out.below hb);have HY:=ri (HY.out.below hb);try have HQ:=ri (HQ.out.below hb)
       try have HQL:=ri (HQL.out.below hb)
       try have HQC:=ri (HQC.out.below hb)
       try have HWR:=ri (HWR.out.below hb)
       try have HCO:=ri (HCO.out.below hb)
       try have HER:=ri (HER.out.below hb)
       have HWR:=ri h7;clear hb h7 HQL;have k0:=HQC.out.f0;have k1:=HQC.out.f1;go_wp2_with fail
       refine (pT _ _ (bI L) (aM L) (X.map itz) (C.map itz) w11 (j4 HCK2.out HX100.out HX12.out) (by rw[HYL.out];exact HO.out.2) HQC.out.F HY.out R2.out.g).mono ?_;clear k0 k1;rintro e w12 ⟨p8,c8,rfl,h8,hb⟩;have R2:=ri (R2.out.below hb);have HY:=ri (HY.out.below hb);try have HQ:=ri (HQ.out.below hb)
       try have HQL:=ri (HQL.out.below hb)
       try have HQC:=ri (HQC.out.below hb)
       try have HWR:=ri (HWR.out.below hb)
       try have HCO:=ri (HCO.out.below hb)
       try have HER:=ri (HER.out.below hb)
       have HCO:=ri h8;clear hb h8 HQC HCK1 HCK2 HYL;go_wp2_with fail
       have HWS:=ri (show ∀ z∈W,z.natAbs<=9007199254740991 from k7 (P:=fun z=>z.natAbs<=9007199254740991) fun t ht=>by
        have:=(HLAW.out t (by rw[<-HW.out.1];exact ht)).2.1
        omega)
       have HCS:=ri (show ∀ z∈C,z.natAbs<=9007199254740991 from k7 (P:=fun z=>z.natAbs<=9007199254740991) fun t ht=>by
        have:=(HLAW.out t (by rw[<-HW.out.2];exact ht)).2.2.1
        omega)
       simp only[rJ] at HWR HCO;have HWL:=ri (show W.length<=1000 by have:=HW.out.1;have:=HX12.out;omega);have HCL:=ri (show C.length<=1000 by have:=HW.out.2;have:=HX12.out;omega);refine (lG _ W w12 HWR.out HWL.out HWS.out R2.out.g.g).mono ?_;rintro e w13 ⟨p9,c9,rfl,h9,hb⟩;have R2:=ri (R2.out.below hb);have HY:=ri (HY.out.below hb);try have HQ:=ri (HQ.out.below hb)
       try have HQL:=ri (HQL.out.below hb)
       try have HQC:=ri (HQC.out.below hb)
       try have HWR:=ri (HWR.out.below hb)
       try have HCO:=ri (HCO.out.below hb)
       try have HER:=ri (HER.out.below hb)
       have HER:=ri h9;clear hb h9 HWR;go_wp2_with fail
       refine (lG _ C w13 HCO.out HCL.out HCS.out R2.out.g.g).mono ?_;rintro e w14 ⟨pa,ca,rfl,ha,hb⟩;have R2:=ri (R2.out.below hb);have HY:=ri (HY.out.below hb);try have HQ:=ri (HQ.out.below hb)
       try have HQL:=ri (HQL.out.below hb)
       try have HQC:=ri (HQC.out.below hb)
       try have HWR:=ri (HWR.out.below hb)
       try have HCO:=ri (HCO.out.below hb)
       try have HER:=ri (HER.out.below hb)
       have HOU:=ri ha;clear hb ha HCO;rw[HW.out.1,HW.out.2];have her:=HER.out;have hou:=HOU.out;rw[HW.out.1] at her;rw[HW.out.2] at hou;have HER:=ri her;have HOU:=ri hou;have hxx:=R2.out.x;have HYtmakbmhlemhgeaaGreatDoor:=ri hxx;clear her hou hxx;go_upto_region 28 with fail
       rename World=>wq;go_loopw [26] (fun s26 wr=>∃ t:Nat,s26=.int .i64 t/\t<=X.length/\Below wq.heap.size wq wr) (fun s26 _=>X.length-(intOf s26).toNat)
       case atStart=>exact⟨0,rfl,rH _,t_ _ _⟩
       case round =>
        obtain⟨t,rfl,htx,hbr⟩:=hrel;by_cases ht:t<X.length
        ·obtain⟨b9,o9,rfl,l9,q9⟩:=(HER.out.below hbr).all (by have:=HW.out.1;omega);obtain⟨ba,oa,rfl,la,qa⟩:=(HOU.out.below hbr).all (by have:=HW.out.2;omega);obtain⟨bb,ob,rfl,lb,qb⟩:=(HYtmakbmhlemhgeaaGreatDoor.out.below hbr).all (by omega);have k9:=q9 t (by have:=HW.out.1;omega);have ka:=qa t (by have:=HW.out.2;omega);have kb:=qb t ht;obtain⟨hs,hw1,hc1,-⟩:=HLAW.out t ht;rw[<-hs] at kb;obtain⟨z,hz⟩:∃ z,z=W.getD t 0:=⟨_,rfl⟩;obtain⟨y,hy⟩:∃ y,y=C.getD t 0:=⟨_,rfl⟩;rw[<-hz] at k9 hw1 kb;rw[<-hy] at ka hc1 kb;have hz2:-1073741824<=z/\z<=1073741824:=by omega
         have hy2:-2147483648<=y/\y<=2147483648:=by omega
         have hx64:=HX12.out;clear hs hz hy q9 qa qb hw1 hc1;rename World=>wv;go_upto_region 30 with fail
         have m5:Below wv.heap.size wv wv.drew:=(t_ _ _).drew;refine aq (fun w'=>∃ x:bG wv.heap.size wv.drew,w'=x.w) (fun _=>false) (by kernel_rfl) (by kernel_rfl) ⟨⟨_,t_ _ _⟩,rfl⟩ ?_;have f0:=fun x:bG wv.heap.size wv.drew=>ac (m5.trans x.h) l9 k9;have f1:=fun x:bG wv.heap.size wv.drew=>ac (m5.trans x.h) la ka;have f2:=fun x:bG wv.heap.size wv.drew=>ac (m5.trans x.h) lb kb;have HB5:=ri (hbr.trans (m5.mono hbr.size));clear m5 hbr k9 ka kb;generalize wv.drew=wd at *
         refine aj 14 0 _ _ _ (by kernel_rfl) ?_;simp only[rC,rG,rB,rF];repeat (go_big_quiet_step (fail))
         refine wpQuiet_nil ?_;refine aP ?_;clear f0 f1 f2;go_wp2;go_roundw;case rel=>exact⟨t+1,by go_num,by omega,HB5.out⟩
         case measure=>simp[intOf];omega
        ·have hte:t=X.length:=by omega
         have R2:=ri (R2.out.below hbr);have HER:=ri (HER.out.below hbr);have HYtmakbmhlemhgeaaGreatDoor:=ri (HYtmakbmhlemhgeaaGreatDoor.out.below hbr);clear hbr htx;have hlt64:=HX12.out;have k0:=R2.out.c0;have k1:=R2.out.c1;have hst:=kX _ _ (1 :: L) W _ R2.out.t HER.out (by simp) (by have:=HL6.out;simp;omega) (fun z hz=>by rcases sU.1 hz with rfl | hz;exact (by decide);exact HL3.out z hz) (by have:=HW.out.1;omega);have HSE:=ri (eh (1 :: L) W)
         have HSG:=ri (show ∀ t,t<X.length->(aZ (1 :: L) W).getD t 0=X.getD t 0 from fun t ht=>by
          rw[<-(HLAW.out t ht).2.2.2];have hw:t<W.length:=by rw[HW.out.1];exact ht
          unfold aZ
          rw[rs,sD,tj hw];rfl)
         by_cases hf:W.any du=true
         ·rw[show bA W=55 by unfold bA;rw[if_pos hf]] at hst;have HST:=ri hst;clear hf hst;go_wp2_with fail
          refine HST.out.mono ?_;rintro e wz ⟨u,rfl,-,-,hb⟩;have R2:=ri (R2.out.below hb);clear hb k0 k1;go_wp2_with fail
          refine (j2 wz R2.out.g).mono ?_;rintro e wy ⟨rfl,hb⟩;have R2:=ri (R2.out.below hb);go_wp2;go_ret;exact⟨rfl,R2.out.bl⟩
         ·rw[show bA W=0 by unfold bA;rw[if_neg hf]] at hst;have HST:=ri hst;clear hf hst;go_wp2_with fail
          refine HST.out.mono ?_;rintro e wz ⟨u,rfl,hu,-,hb⟩;have hu:=hu (by trivial);obtain⟨pu,cu,rfl,-⟩:=id hu.form;have e1:(aZ (1 :: L) W).length=X.length:=by rw[HSE.out,HW.out.1]
          rw[e1] at hu |-;have HU:=ri hu;have HE1:=ri e1;have R2:=ri (R2.out.below hb);have HYtmakbmhlemhgeaaGreatDoor:=ri (HYtmakbmhlemhgeaaGreatDoor.out.below hb);clear hb k0 k1 hu e1;go_upto_region 38 with fail
          clear HER HSE HST;rename World=>wq;subst hte;go_loopw [28] (fun s28 wr=>∃ t:Nat,s28=.int .i64 t/\t<=X.length/\Below wq.heap.size wq wr) (fun s28 _=>X.length-(intOf s28).toNat)
          case atStart=>exact⟨0,rfl,rH _,t_ _ _⟩
          case round =>
           obtain⟨t,rfl,htx,hbr⟩:=hrel;by_cases ht:t<X.length
           ·obtain⟨b9,o9,rfl,l9,q9⟩:=(HU.out.below hbr).all (by rw[HE1.out];omega);obtain⟨bb,ob,rfl,lb,qb⟩:=(HYtmakbmhlemhgeaaGreatDoor.out.below hbr).all (by omega);obtain⟨k9,ka⟩:=q9 t (by rw[HE1.out];exact ht);have kb:=qb t ht;rw[HSG.out t ht] at k9 ka;obtain⟨z,hz⟩:∃ z,z=X.getD t 0:=⟨_,rfl⟩;rw[<-hz] at k9 ka kb;have hx64:=HX12.out;clear hz q9 qb;rename World=>wv;go_upto_region 40 with fail
            have m5:Below wv.heap.size wv wv.drew:=(t_ _ _).drew;refine aq (fun w'=>∃ x:bG wv.heap.size wv.drew,w'=x.w) (fun _=>false) (by kernel_rfl) (by kernel_rfl) ⟨⟨_,t_ _ _⟩,rfl⟩ ?_;have f0:=fun x:bG wv.heap.size wv.drew=>ac (m5.trans x.h) l9 k9;have f1:=fun x:bG wv.heap.size wv.drew=>ac (m5.trans x.h) l9 ka;have f2:=fun x:bG wv.heap.size wv.drew=>ac (m5.trans x.h) lb kb;have HB5:=ri (hbr.trans (m5.mono hbr.size));clear m5 hbr k9 ka kb;generalize wv.drew=wd at *
            refine aj 14 0 _ _ _ (by kernel_rfl) ?_;simp only[rC,rG,rB,rF];repeat (go_big_quiet_step (fail))
            refine wpQuiet_nil ?_;refine aP ?_;clear f0 f1 f2;go_wp2;go_roundw;case rel=>exact⟨t+1,by go_num,by omega,HB5.out⟩
            case measure=>simp[intOf];omega
           ·have hte:t=X.length:=by omega
            have R2:=ri (R2.out.below hbr);clear hbr htx;have hlt64:=HX12.out;go_wp2_with fail
            refine (j2 _ R2.out.g).mono ?_;rintro e wy ⟨rfl,hb⟩;have R2:=ri (R2.out.below hb);go_wp2;go_ret;exact⟨rfl,R2.out.bl⟩
end Go.Proofs.YtmakbmhlemhgeaaGreatDoor
