/- L -/
import Derived.Test.YtgakllaobooabaaGreatDoorXReg
import Derived.Test.YtgakllaobooabaaGreatDoorXPD1
import Derived.Test.YtgakllaobooabaaGreatDoorXB
set_option linter.all false
set_option maxRecDepth 100000
set_option maxHeartbeats 8000000
namespace Go.Proofs.YtgakllaobooabaaGreatDoor
open Go.RowKit Dg
def eQ (zs:List CQ) (j:Nat):List CQ:=zs.take j++List.replicate (zs.length-j) ⟨0,0⟩
theorem dE (zs:List CQ) {j:Nat} (h:j<=zs.length):(eQ zs j).length=zs.length:=by simp[eQ];omega
theorem tC (zs:List CQ):eQ zs zs.length=zs:=by simp[eQ]
theorem mq (zs:List CQ) {j:Nat} (h:j<zs.length) (h':j<(eQ zs (j+1)).length):(eQ zs (j+1))[j]=zs[j]:=by
 have hm:j<min (j+1) zs.length:=by omega
 simp[eQ,List.getElem_append,hm]
theorem tD (zs:List CQ) {j:Nat} (h:j<zs.length):(eQ zs (j+1)).set j ⟨0,0⟩=eQ zs j:=by
 unfold eQ;rw[<-AM h,Bl,List.set_append_right _ _ (by simp;omega)];rw[A6,Bo (Cy h),BL,Cx,Ay,show zs.length-j=zs.length-(j+1)+1 from by omega,Ck]
theorem lh {c:CQ} (h:c≠⟨0,0⟩):0<(jY (ct c)).n:=by
 rw[lg];rcases BJ (rt c.norm).n with h0 | h0
 ·exact absurd ((aP _).1 h0) (CQ.norm_ne h)
 ·exact h0
theorem xi {z c:CQ} (hz:SzV 300 (ct z)) (hc:SzV 300 (ct c)) (h:c≠⟨0,0⟩):SzV 10000 (ct (z.div c)):=by
 rw[<-gQ h];exact ((hz.times hc.conj).times (SzV.plain (hc.norm.inv (lh h)) (by decide))).mono (by decide)
theorem qR (vp vq:Value) (zs:List CQ) (c:CQ) (w:World) (hp:IsP w vp zs) (hq:IsP w vq [c]) (hc:c≠⟨0,0⟩) (hz0:0<zs.length) (hl:zs.length<=33) (hs:SzL 300 zs) (hsc:SzV 300 (ct c)) :
  Calls Tryz.prog 125 #[vp,vq] w fun e w'=>∃ v1 v2,e=.returned (.tuple #[v1,v2])/\IsP w' v1 (bA (iQ zs c))/\IsP w' v2 []/\Below w.heap.size w w':=by
 obtain⟨p,cp,rfl,-⟩:=id hp.form;obtain⟨q,cq,rfl,-⟩:=id hq.form;have HS:=At hs;have HSC:=At hsc;have HC:=At hc;obtain⟨Bq,oq,rfl,hltq,cm,cp1,cl1,cc1,cq1,ck1,cd1,dm,dp1,dl1,dc1,dq1,dk1,dd1,hkq,a0,a1,a2,a3,a4,a5⟩:=hq.get (i:=0) (by simp);simp only[BR,Bb,Av] at hkq a0 a1 a2 a3 a4 a5;have HQ:=At hkq;have HA:=At (And.intro a0 (And.intro a1 (And.intro a2 (And.intro a3 (And.intro a4 a5)))));clear hs hsc hc hkq;go_enter Tryz.func125,Tryz.ntmps125;have hb:=ac w (.cells #[] 65);have hE:=qS w w.heap.size (AA _);have hP2:=hp.below hb;go_wp2_with (at_builtin;refine fR 57 113 Tryz.underlying57 Tryz.underlying113 rfl (.tmp 13) (.tmp 14) rfl w.heap.size _ _ [] zs rfl hE rfl hP2 (fun h=>by rw[h] at hz0;simp at hz0) (by simp;omega) (by rw[size_alloc];omega) ?_)
 intro v6 w1 hw1 hb1 hu1 _;have hB1:=hb1 _ _ hb (AA _);try rw[A1] at hw1
 obtain⟨g,cap,rfl,hgb,hR⟩:=eY.of_own hw1 hz0;have HR1:=At hR;have b0:=aa hB1 hltq a0;have b1:=aa hB1 hltq a1;have b2:=aa hB1 hltq a2;have b3:=aa hB1 hltq a3;have b4:=aa hB1 hltq a4;have b5:=aa hB1 hltq a5;have hg1:=hR.lt;clear hb hE hP2 hb1 hu1 hw1 hR a0 a1 a2 a3 a4 a5;go_upto_region 3 with fail
 have q2:=aW.new w1 (.bool cm) (.slice cp1 cl1 cc1) (.slice cq1 ck1 cd1) (.bool dm) (.slice dp1 dl1 dc1) (.slice dq1 dk1 dd1) 65;have m2:=ac w1 (.cells #[.bool cm,.slice cp1 cl1 cc1,.slice cq1 ck1 cd1,.bool dm,.slice dp1 dl1 dc1,.slice dq1 dk1 dd1] 65);generalize w1.alloc (.cells #[.bool cm,.slice cp1 cl1 cc1,.slice cq1 ck1 cd1,.bool dm,.slice dp1 dl1 dc1,.slice dq1 dk1 dd1] 65)=w2 at *
 have hws:w.heap.size<=w1.heap.size:=hB1.size;obtain⟨gt,hgt⟩:∃ gt,gt=w1.heap.size:=⟨_,rfl⟩;rw[<-hgt] at q2 hg1 hws |-;have HR2:=At (HR1.out.below m2);have HB2:=At (hB1.trans (m2.mono hB1.size));have HT:=At q2;clear q2 m2 hgt hB1 HR1 b0 b1 b2 b3 b4 b5;go_wp2;go_loopw [8,9] (fun s8 s9 wr=>∃ (j:Nat) (z:Int),s9=.int .i64 z/\z=(j:Int)-1/\j<=zs.length/\cC wr (gt+1) s8 ((iQ zs c).drop j)/\Hid (j=zs.length->s8=.slice none 0 0)/\eY wr g cap (eQ zs j)/\aW wr gt (.bool cm) (.slice cp1 cl1 cc1) (.slice cq1 ck1 cd1) (.bool dm) (.slice dp1 dl1 dc1) (.slice dq1 dk1 dd1)/\Below w.heap.size w wr) (fun _ s9 _=>(intOf s9+1).toNat)
 case atStart=>exact⟨zs.length,_,rfl,rfl,AA _,by rw[List.drop_of_length_le (by rw[gU];exact AA _)];exact cC.nil _ _,fun _=>rfl,by rw[tC];exact HR2.out,HT.out,HB2.out⟩
 case round =>
  obtain⟨j,z,rfl,hz,hj,hown,hnil,hR,hT,hbr⟩:=hrel;by_cases h0:j=0
  ·subst h0;obtain rfl:z=-1:=by omega
   have hw:=hown.isP;rw[AF] at hw;have hw2:=hR.isP;rw[dE zs (AI _)] at hw2;have HW:=At hw;have HW2:=At hw2;have hql:(iQ zs c).length<1000000:=by rw[gU];omega
   have hll:(eQ zs 0).length<1000000:=by rw[dE zs (AI _)];omega
   clear hown hnil hR hT hz hw hw2;go_wp2_with fail
   refine (mp _ _ wr HW.out hql).mono ?_;rintro e w4 ⟨v1,rfl,hv1,hb4⟩;go_wp2_with fail
   refine (mp _ _ w4 (HW2.out.below hb4) hll).mono ?_;rintro e w5 ⟨v2,rfl,hv2,hb5⟩;rw[show bA (eQ zs 0)=[] from jX _] at hv2;go_wp2;refine Du (v:=.tuple #[v1,v2]) (by simp[results,Tryz.results125,go_sem]) rfl ⟨v1,v2,rfl,hv1.below hb5,hv2,hbr.trans ((hb4.trans (hb5.mono hb4.size)).mono hbr.size)⟩
  ·obtain⟨m,rfl⟩:∃ m,j=m+1:=⟨j-1,by omega⟩;obtain rfl:z=(m:Int):=by omega
   have hm:m<zs.length:=by omega
   obtain⟨Bx,ox,hx,hltx,xm,xp,xl,xc,xq,xk,xd,ym,yp,yl,yc,yq,yk,yd,hkz,r0,r1,r2,r3,r4,r5⟩:=hR.isP.get (i:=m) (by rw[dE zs hj];exact hm);obtain⟨rfl,rfl⟩:g=Bx/\0=ox:=by simpa using hx
   rw[mq zs hm] at hkz;have HZ:=At (HS.out _ (AR hm));have HQD:=At (tV zs c hm);obtain⟨z0,hz0'⟩:∃ z,z=zs[m]:=⟨_,rfl⟩;rw[<-hz0'] at hkz HZ HQD;have HZ0:=At hz0';simp only[Bp] at r0 r1 r2 r3 r4 r5;have HK:=At hkz;have HOW:=At hown;have HRR:=At hR;have HTT:=At hT;clear hz h0 hkz hown hR hx HR2 HT HB2 hz0';go_upto_region 7 with fail
   have HN:=At (show 0<(jY (ct c)).n from lh HC.out);have HDV:=At (xi HZ.out HSC.out HC.out);clear hT
   go_cut [10] from 31 to 40 (fun s10 wx=>∃ (g1:Nat) (sm:Bool) (sp:Option Addr) (sl sc:Nat) (sq:Option Addr) (sk sd:Nat) (tm:Bool) (tp:Option Addr) (tl tc:Nat) (tq:Option Addr) (tk td:Nat),s10=.pointer (some ⟨g1,0,none⟩)/\bm wx g1 (.bool sm) (.slice sp sl sc) (.slice sq sk sd) (.bool tm) (.slice tp tl tc) (.slice tq tk td)/\IsK wx (.agg #[.bool sm,.slice sp sl sc,.slice sq sk sd,.bool tm,.slice tp tl tc,.slice tq tk td]) (z0.div c)/\wr.heap.size<=g1/\Below wr.heap.size wr wx)
   case first =>
    have hBd:Below wr.heap.size wr wr.drew:=(Dv _ _).drew;refine wp_mono (aH (Q:=ci _) (fun wx:World=>Below wr.drew.heap.size wr.drew wx) (fun i=>i == 11) (by kernel_rfl) ?_) (fun _ _ _ h=>cL h);have hS:Below wr.drew.heap.size wr.drew wr.drew:=Dv _ _;generalize wr.drew=wd at *
    have hw1:IntKind.i64.wrap ((m:Int)+1)=(m:Int)+1:=IntWalk.i64_in _ (by omega);have hw2:IntKind.i64.wrap (m:Int)=(m:Int):=IntWalk.i64_in _ (by omega);have hmI:(m:Int)<(zs.length:Int):=by omega
    have hm0:0<=(m:Int):=by omega
    refine Ds 0 (r:=?_)
    try simp only[Act.put,Ax,Aw,Av,Au,Ay,Az]
    refine Ds 1 (r:=?_)
    try simp only[Act.put,Ax,Aw,Av,Au,Ay,Az]
    refine Ds 2 (r:=?_)
    try simp only[Act.put,Ax,Aw,Av,Au,Ay,Az]
    refine Ds 3 (r:=?_)
    try simp only[Act.put,Ax,Aw,Av,Au,Ay,Az]
    refine Ds 4 (r:=?_)
    try simp only[Act.put,Ax,Aw,Av,Au,Ay,Az]
    refine Ds 5 (r:=?_)
    try simp only[Act.put,Ax,Aw,Av,Au,Ay,Az]
    refine Ds 6 (r:=?_)
    try simp only[Act.put,Ax,Aw,Av,Au,Ay,Az]
    refine aB (i:=7) (v:=?vv7) rfl (by kernel_rfl) (fun _ _ _ h=>h) rfl hS ?hy7 ?rest7
    case hy7 =>
     intro wy hy;have r:=HRR.out.isP.get (i:=m) (by rw[dE zs hj];exact hm);have hBy:=Below.trans hBd (hy.mono hBd.size);have b0:=aa hBy hltx r0;have b1:=aa hBy hltx r1;have b2:=aa hBy hltx r2;have b3:=aa hBy hltx r3;have b4:=aa hBy hltx r4;have b5:=aa hBy hltx r5;have e1:=HTT.out.below hBy;have c0:=e1.c0;have c1:=e1.c1;have c2:=e1.c2;have c3:=e1.c3;have c4:=e1.c4;have c5:=e1.c5;clear e1 r hBy hy;go_simp;try with_reducible rfl
    try simp only[Act.put,Ax,Aw,Av,Au,Ay,Az]
    refine aB (i:=8) (v:=?vv8) rfl (by kernel_rfl) (fun _ _ _ h=>h) rfl hS ?hy8 ?rest8
    case hy8 =>
     intro wy hy;have r:=HRR.out.isP.get (i:=m) (by rw[dE zs hj];exact hm);have hBy:=Below.trans hBd (hy.mono hBd.size);have b0:=aa hBy hltx r0;have b1:=aa hBy hltx r1;have b2:=aa hBy hltx r2;have b3:=aa hBy hltx r3;have b4:=aa hBy hltx r4;have b5:=aa hBy hltx r5;have e1:=HTT.out.below hBy;have c0:=e1.c0;have c1:=e1.c1;have c2:=e1.c2;have c3:=e1.c3;have c4:=e1.c4;have c5:=e1.c5;clear e1 r hBy hy;go_simp;try with_reducible rfl
    try simp only[Act.put,Ax,Aw,Av,Au,Ay,Az]
    clear hw1 hw2 hmI hm0;refine kC (i:=9) (i':=10) rfl rfl (by kernel_rfl) rfl rfl (fun K hK=>?_) (fun K hK=>?_)
    ·go_simp;refine (nG _ _ _ _ 300 300 wd ((HK.out.below (hBd.trans (Below.mono hS hBd.size))).v) ((HQ.out.below (hbr.trans ((hBd.trans (Below.mono hS hBd.size)).mono hbr.size))).v) HZ.out HSC.out HN.out (by decide)).mono ?_;rintro e w4 ⟨v4,rfl,hv4,hb4⟩;rw[gQ HC.out] at hv4;have hk4:IsK w4 v4 (z0.div c):=⟨hv4,HDV.out⟩;obtain⟨sm,sp,sl,sc,sq,sk,sd,tm,tp,tl,tc,tq,tk,td,rfl⟩:=hk4.forms;have hB4:=Below.trans hS (hb4.mono (Below.size hS));refine hK _ _ (fun _ _=>hB4) ?_;clear hK K hv4;try simp only[Act.put,Ax,Aw,Av,Au,Ay,Az]
     refine aC (i:=10) rfl (by kernel_rfl) rfl (fun K hK=>?_);go_simp;have B3:=bm.new w4 (.bool false) (.slice none 0 0) (.slice none 0 0) (.bool false) (.slice none 0 0) (.slice none 0 0) nofun nofun nofun nofun nofun nofun;have mA:=ac w4 (.cells #[.bool false,.slice none 0 0,.slice none 0 0,.bool false,.slice none 0 0,.slice none 0 0] 65);have hC:=Below.trans hB4 (mA.mono (Below.size hB4));refine hK _ _ (fun _ _=>hC) ?_;clear hK K;try simp only[Act.put,Ax,Aw,Av,Au,Ay,Az]
     generalize w4.alloc (.cells #[.bool false,.slice none 0 0,.slice none 0 0,.bool false,.slice none 0 0,.slice none 0 0] 65)=wc at *
     have B8:=B3;have hk4:=hk4.below mA;have hle:wr.heap.size<=w4.heap.size:=by have:=hBd.size;have:=hB4.size;omega
     have k0:=B8.cell 0;have k1:=B8.cell 1;have k2:=B8.cell 2;have k3:=B8.cell 3;have k4:=B8.cell 4;have k5:=B8.cell 5;have f0:=B8.fr 0;have f1:=B8.fr 1;have f2:=B8.fr 2;have f3:=B8.fr 3;have f4:=B8.fr 4;have f5:=B8.fr 5;have P:=At (B8.putV hk4.v.parts.1 hk4.v.parts.2);have M8:=At (P.out.2.2 _ _ (hBd.trans (Below.mono hC hBd.size)) hle);have HP:=At (show IsK _ _ _ from⟨P.out.2.1,hk4.s⟩);refine aC (i:=11) rfl (by kernel_rfl) rfl (fun K hK=>?_);go_simp;refine hK _ _ (fun h _=>by simp at h) ?_;clear hK K k0 k1 k2 k3 k4 k5 f0 f1 f2 f3 f4 f5;try simp only[Act.put,Ax,Aw,Av,Au,Ay,Az]
     refine bC (by kernel_rfl) ?_ _;simp only[ci];try go_wp2
     go_meet;exact⟨w4.heap.size,sm,sp,sl,sc,sq,sk,sd,tm,tp,tl,tc,tq,tk,td,rfl,P.out.1,HP.out,hle,M8.out⟩
    ·go_simp;have B3:=bm.new wd (.bool false) (.slice none 0 0) (.slice none 0 0) (.bool false) (.slice none 0 0) (.slice none 0 0) nofun nofun nofun nofun nofun nofun;have mA:=ac wd (.cells #[.bool false,.slice none 0 0,.slice none 0 0,.bool false,.slice none 0 0,.slice none 0 0] 65);have hC:=Below.trans hS (mA.mono (Below.size hS));refine hK _ _ (fun _ _=>hC) ?_;clear hK K;try simp only[Act.put,Ax,Aw,Av,Au,Ay,Az]
     generalize wd.alloc (.cells #[.bool false,.slice none 0 0,.slice none 0 0,.bool false,.slice none 0 0,.slice none 0 0] 65)=wc at *
     refine aC (i:=9) rfl (by kernel_rfl) rfl (fun K hK=>?_);go_simp;refine (nG _ _ _ _ 300 300 wc ((HK.out.below (hBd.trans (Below.mono hC hBd.size))).v) ((HQ.out.below (hbr.trans ((hBd.trans (Below.mono hC hBd.size)).mono hbr.size))).v) HZ.out HSC.out HN.out (by decide)).mono ?_;rintro e w4 ⟨v4,rfl,hv4,hb4⟩;rw[gQ HC.out] at hv4;have hk4:IsK w4 v4 (z0.div c):=⟨hv4,HDV.out⟩;obtain⟨sm,sp,sl,sc,sq,sk,sd,tm,tp,tl,tc,tq,tk,td,rfl⟩:=hk4.forms;have hB4:=Below.trans hC (hb4.mono (Below.size hC));refine hK _ _ (fun _ _=>hB4) ?_;clear hK K hv4;try simp only[Act.put,Ax,Aw,Av,Au,Ay,Az]
     have B8:=B3.below hb4;have hle:wr.heap.size<=wd.heap.size:=hBd.size;have k0:=B8.cell 0;have k1:=B8.cell 1;have k2:=B8.cell 2;have k3:=B8.cell 3;have k4:=B8.cell 4;have k5:=B8.cell 5;have f0:=B8.fr 0;have f1:=B8.fr 1;have f2:=B8.fr 2;have f3:=B8.fr 3;have f4:=B8.fr 4;have f5:=B8.fr 5;have P:=At (B8.putV hk4.v.parts.1 hk4.v.parts.2);have M8:=At (P.out.2.2 _ _ (hBd.trans (Below.mono hB4 hBd.size)) hle);have HP:=At (show IsK _ _ _ from⟨P.out.2.1,hk4.s⟩);refine aC (i:=11) rfl (by kernel_rfl) rfl (fun K hK=>?_);go_simp;refine hK _ _ (fun h _=>by simp at h) ?_;clear hK K k0 k1 k2 k3 k4 k5 f0 f1 f2 f3 f4 f5;try simp only[Act.put,Ax,Aw,Av,Au,Ay,Az]
     refine bC (by kernel_rfl) ?_ _;simp only[ci];try go_wp2
     go_meet;exact⟨wd.heap.size,sm,sp,sl,sc,sq,sk,sd,tm,tp,tl,tc,tq,tk,td,rfl,P.out.1,HP.out,hle,M8.out⟩
   case rest =>
    obtain⟨g1,sm,sp,sl,sc,sq,sk,sd,tm,tp,tl,tc,tq,tk,td,rfl,h10,hkd,hg1',hb2⟩:=hcut;rename World=>wx;have HG1:=At (show g<g1 by omega);have hB2:=hbr.trans (hb2.mono hbr.size);have hm1:=ac wx (.cells #[.bool sm,.slice sp sl sc,.slice sq sk sd,.bool tm,.slice tp tl tc,.slice tq tk td] 65);have hownP:=(HOW.out.below hb2).isP.below hm1
    have hnn:(iQ zs c).drop (m+1)=[]->u8=.slice none 0 0:=fun h=>hnil.out (by
     have h1:=congrArg List.length h;rw[Ba,gU] at h1
     simp at h1;omega)
    have hR2:=At (HRR.out.below hb2);have hT2:=At (HTT.out.below hb2);have H10:=At h10;have hO1:=vY (base:=wx.heap.size) hkd (AA _);have k0:=h10.cell 0;have k1:=h10.cell 1;have k2:=h10.cell 2;have k3:=h10.cell 3;have k4:=h10.cell 4;have k5:=h10.cell 5;have hdl:[z0.div c].length+((iQ zs c).drop (m+1)).length<1000000000:=by rw[Ba,gU];simp;omega
    have hzz:wx.heap.size<=(wx.alloc (.cells #[.bool sm,.slice sp sl sc,.slice sq sk sd,.bool tm,.slice tp tl tc,.slice tq tk td] 65)).heap.size:=hm1.size;have HKD:=At hkd;clear hm1 hnil h10 hkd HRR HTT r0 r1 r2 r3 r4 r5 HN HK HOW;go_wp2_with (at_builtin;refine fR 57 57 Tryz.underlying57 Tryz.underlying57 rfl (.tmp 42) (.tmp 43) rfl wx.heap.size _ _ [z0.div c] ((iQ zs c).drop (m+1)) rfl hO1 rfl hownP hnn hdl hzz ?_)
    intro v8 w5 hw5 hb5 hu5 _;have hB5:=hb5 _ _ (ac wx _) (AA _)
    have hw5:cC w5 (gt+1) v8 ((iQ zs c).drop m):=by
     rw[HQD.out];exact hw5.lower (by have:=hT2.out.lt;omega)
    have H10:=At (H10.out.below hB5);have HR5:=At (hR2.out.below hB5);have HT5:=At (hT2.out.below hB5);have HKD:=At (HKD.out.below hB5);have HB5:=At (hB2.trans (hB5.mono hB2.size));have HW5:=At hw5;have hlt1:gt+1<=wx.heap.size:=by have:=hT2.out.lt;omega
    clear hb5 hu5 hw5 hownP hO1 hnn hdl hzz k0 k1 k2 k3 k4 k5 hR2 hT2 hB5 hB2 hb2;go_wp2;rename World=>wo;go_loopw [47] (fun s47 wi=>Below w.heap.size w wi/\cC wi (gt+1) v8 ((iQ zs c).drop m)/\aW wi gt (.bool cm) (.slice cp1 cl1 cc1) (.slice cq1 ck1 cd1) (.bool dm) (.slice dp1 dl1 dc1) (.slice dq1 dk1 dd1)/\bm wi g1 (.bool sm) (.slice sp sl sc) (.slice sq sk sd) (.bool tm) (.slice tp tl tc) (.slice tq tk td)/\IsK wi (.agg #[.bool sm,.slice sp sl sc,.slice sq sk sd,.bool tm,.slice tp tl tc,.slice tq tk td]) (z0.div c)/\((s47=.int .i64 0/\eY wi g cap (eQ zs (m+1)))\/(s47=.int .i64 1/\eY wi g cap (eQ zs m)))) (fun s47 _=>(1-intOf s47).toNat)
    case atStart=>exact⟨HB5.out,HW5.out,HT5.out,H10.out,HKD.out,Or.inl ⟨rfl,HR5.out⟩⟩
    case round =>
     clear HB5 HW5 HT5 H10 HKD HR5;obtain⟨hbi,hwi,hti,h1i,hki,hcase⟩:=hrel;rcases hcase with ⟨rfl,hRi⟩ | ⟨rfl,hRi⟩
     ·obtain⟨a0,a1,a2,a3,a4,a5⟩:=HA.out;have b0:=aa hbi hltq a0;have b1:=aa hbi hltq a1;have b2:=aa hbi hltq a2;have b3:=aa hbi hltq a3;have b4:=aa hbi hltq a4;have b5:=aa hbi hltq a5;have HWI:=At hwi;have HTI:=At hti;have H1I:=At h1i;have HKI:=At hki;have HRI:=At hRi;have HBI:=At hbi;clear a0 a1 a2 a3 a4 a5 hbi hwi hti h1i hki hRi;go_upto_region 12 with fail
      have q4:=aW.new wr (.bool cm) (.slice cp1 cl1 cc1) (.slice cq1 ck1 cd1) (.bool dm) (.slice dp1 dl1 dc1) (.slice dq1 dk1 dd1) 65;have m4:=ac wr (.cells #[.bool cm,.slice cp1 cl1 cc1,.slice cq1 ck1 cd1,.bool dm,.slice dp1 dl1 dc1,.slice dq1 dk1 dd1] 65);obtain⟨g12,hg12⟩:∃ k,k=wr.heap.size:=⟨_,rfl⟩;rw[<-hg12] at q4 |-;clear hg12;generalize wr.alloc (.cells #[.bool cm,.slice cp1 cl1 cc1,.slice cq1 ck1 cd1,.bool dm,.slice dp1 dl1 dc1,.slice dq1 dk1 dd1] 65)=wa at *
      have hd4:Below wa.heap.size wa wa.drew:=(Dv _ _).drew;have hBd:=m4.trans (hd4.mono m4.size);have Q4:=At (q4.below hd4);have HWI:=At (HWI.out.below hBd);have HTI:=At (HTI.out.below hBd);have H1I:=At (H1I.out.below hBd);have HKI:=At (HKI.out.below hBd);have HRI:=At (HRI.out.below hBd);have HBI:=At (HBI.out.trans (hBd.mono HBI.out.size));clear q4 m4 hd4 b0 b1 b2 b3 b4 b5;refine aH (fun wx:World=>Below wa.drew.heap.size wa.drew wx) (fun i=>i == 15) (by kernel_rfl) ?_;have hS:Below wa.drew.heap.size wa.drew wa.drew:=Dv _ _;clear hBd;generalize wa.drew=wd at *
      obtain⟨Bx,ox,hx,hltx,xm,xp,xl,xc,xq,xk,xd,ym,yp,yl,yc,yq,yk,yd,hkz,r0,r1,r2,r3,r4,r5⟩:=HRI.out.isP.get (i:=m) (by rw[dE zs hj];exact hm);obtain⟨rfl,rfl⟩:g=Bx/\0=ox:=by simpa using hx
      rw[mq zs hm] at hkz;rw[<-HZ0.out] at hkz;simp only[Bp] at r0 r1 r2 r3 r4 r5;have HK:=At hkz;have hw2:IntKind.i64.wrap (m:Int)=(m:Int):=IntWalk.i64_in _ (by omega);have hmI:(m:Int)<(zs.length:Int):=by omega
      have hm0:0<=(m:Int):=by omega
      clear hkz hx;refine aj (i:=0) (v:=?vx0) rfl (by kernel_rfl) (fun _ _ _ h=>h) rfl ?hx0 ?resx0;case hx0=>(intro wy;go_simp;try with_reducible rfl)
      try simp only[Act.put,Ax,Aw,Av,Au,Ay,Az]
      refine aj (i:=1) (v:=?vx1) rfl (by kernel_rfl) (fun _ _ _ h=>h) rfl ?hx1 ?resx1;case hx1=>(intro wy;go_simp;try with_reducible rfl)
      try simp only[Act.put,Ax,Aw,Av,Au,Ay,Az]
      refine aj (i:=2) (v:=?vx2) rfl (by kernel_rfl) (fun _ _ _ h=>h) rfl ?hx2 ?resx2;case hx2=>(intro wy;go_simp;try with_reducible rfl)
      try simp only[Act.put,Ax,Aw,Av,Au,Ay,Az]
      refine aj (i:=3) (v:=?vx3) rfl (by kernel_rfl) (fun _ _ _ h=>h) rfl ?hx3 ?resx3;case hx3=>(intro wy;go_simp;try with_reducible rfl)
      try simp only[Act.put,Ax,Aw,Av,Au,Ay,Az]
      refine aj (i:=4) (v:=?vx4) rfl (by kernel_rfl) (fun _ _ _ h=>h) rfl ?hx4 ?resx4;case hx4=>(intro wy;go_simp;try with_reducible rfl)
      try simp only[Act.put,Ax,Aw,Av,Au,Ay,Az]
      refine aj (i:=5) (v:=?vx5) rfl (by kernel_rfl) (fun _ _ _ h=>h) rfl ?hx5 ?resx5;case hx5=>(intro wy;go_simp;try with_reducible rfl)
      try simp only[Act.put,Ax,Aw,Av,Au,Ay,Az]
      refine aj (i:=6) (v:=?vx6) rfl (by kernel_rfl) (fun _ _ _ h=>h) rfl ?hx6 ?resx6;case hx6=>(intro wy;go_simp;try with_reducible rfl)
      try simp only[Act.put,Ax,Aw,Av,Au,Ay,Az]
      refine aj (i:=7) (v:=?vx7) rfl (by kernel_rfl) (fun _ _ _ h=>h) rfl ?hx7 ?resx7;case hx7=>(intro wy;go_simp;try with_reducible rfl)
      try simp only[Act.put,Ax,Aw,Av,Au,Ay,Az]
      refine aj (i:=8) (v:=?vx8) rfl (by kernel_rfl) (fun _ _ _ h=>h) rfl ?hx8 ?resx8;case hx8=>(intro wy;go_simp;try with_reducible rfl)
      try simp only[Act.put,Ax,Aw,Av,Au,Ay,Az]
      refine aB (i:=9) (v:=?vw9) rfl (by kernel_rfl) (fun _ _ _ h=>h) rfl hS ?hz9 ?resu9
      case hz9 =>
       intro wy hy;have b0:=aa hy hltx r0;have b1:=aa hy hltx r1;have b2:=aa hy hltx r2;have b3:=aa hy hltx r3;have b4:=aa hy hltx r4;have b5:=aa hy hltx r5;have e1:=Q4.out.below hy;have c0:=e1.c0;have c1:=e1.c1;have c2:=e1.c2;have c3:=e1.c3;have c4:=e1.c4;have c5:=e1.c5;have e2:=H1I.out.below hy;have d0:=e2.cell 0;have d1:=e2.cell 1;have d2:=e2.cell 2;have d3:=e2.cell 3;have d4:=e2.cell 4;have d5:=e2.cell 5;clear e1 e2 hy;go_simp;try with_reducible rfl
      try simp only[Act.put,Ax,Aw,Av,Au,Ay,Az]
      refine aB (i:=10) (v:=?vw10) rfl (by kernel_rfl) (fun _ _ _ h=>h) rfl hS ?hz10 ?resu10
      case hz10 =>
       intro wy hy;have b0:=aa hy hltx r0;have b1:=aa hy hltx r1;have b2:=aa hy hltx r2;have b3:=aa hy hltx r3;have b4:=aa hy hltx r4;have b5:=aa hy hltx r5;have e1:=Q4.out.below hy;have c0:=e1.c0;have c1:=e1.c1;have c2:=e1.c2;have c3:=e1.c3;have c4:=e1.c4;have c5:=e1.c5;have e2:=H1I.out.below hy;have d0:=e2.cell 0;have d1:=e2.cell 1;have d2:=e2.cell 2;have d3:=e2.cell 3;have d4:=e2.cell 4;have d5:=e2.cell 5;clear e1 e2 hy;go_simp;try with_reducible rfl
      try simp only[Act.put,Ax,Aw,Av,Au,Ay,Az]
      refine aB (i:=11) (v:=?vw11) rfl (by kernel_rfl) (fun _ _ _ h=>h) rfl hS ?hz11 ?resu11
      case hz11 =>
       intro wy hy;have b0:=aa hy hltx r0;have b1:=aa hy hltx r1;have b2:=aa hy hltx r2;have b3:=aa hy hltx r3;have b4:=aa hy hltx r4;have b5:=aa hy hltx r5;have e1:=Q4.out.below hy;have c0:=e1.c0;have c1:=e1.c1;have c2:=e1.c2;have c3:=e1.c3;have c4:=e1.c4;have c5:=e1.c5;have e2:=H1I.out.below hy;have d0:=e2.cell 0;have d1:=e2.cell 1;have d2:=e2.cell 2;have d3:=e2.cell 3;have d4:=e2.cell 4;have d5:=e2.cell 5;clear e1 e2 hy;go_simp;try with_reducible rfl
      try simp only[Act.put,Ax,Aw,Av,Au,Ay,Az]
      refine aC (i:=12) rfl (by kernel_rfl) rfl (fun K hK=>?_);go_simp;refine (ff _ _ _ _ wd HKI.out.v (HQ.out.below HBI.out).v (HKI.out.s.fewV HSC.out (by decide))).mono ?_;rintro e w6 ⟨v6,rfl,hv6,hb6⟩;rw[a6,CQ.div_mul HC.out] at hv6;refine hK _ _ (fun _ _=>hb6) ?_;clear hK K;try simp only[Act.put,Ax,Aw,Av,Au,Ay,Az]
      refine aC (i:=13) rfl (by kernel_rfl) rfl (fun K hK=>?_);go_simp;refine (vM _ _ _ _ w6 (HK.out.below hb6).v hv6 (HZ.out.x.fewR HZ.out.x.neg (by decide)) (HZ.out.y.fewR HZ.out.y.neg (by decide))).mono ?_;rintro e w7 ⟨v7,rfl,hv7,hb7⟩;have hB7:=hb6.trans (hb7.mono hb6.size);rw[ld,CQ.sub_self] at hv7;have hk7:IsK w7 v7 ⟨0,0⟩:=⟨hv7,⟨.zero (by decide),.zero (by decide)⟩⟩;obtain⟨um,up,ul,uc,uq,uk,ud,vm,vp',vl,vc,vq',vk,vd,rfl⟩:=hk7.forms;refine hK _ _ (fun _ _=>hB7) ?_;clear hK K hv7 hv6;try simp only[Act.put,Ax,Aw,Av,Au,Ay,Az]
      refine aj (i:=14) (v:=?vx14) rfl (by kernel_rfl) (fun _ _ _ h=>h) rfl ?hx14 ?resx14;case hx14=>(intro wy;go_simp;try with_reducible rfl)
      try simp only[Act.put,Ax,Aw,Av,Au,Ay,Az]
      clear hw2 hmI hm0;have hR7:=HRI.out.below hB7;obtain⟨S1,S2,S3,S4⟩:=hR7.set (k:=m) (by rw[dE zs hj];exact hm) hk7;rw[tD zs hm] at S1;have k0:=aa hB7 hltx r0;have k1:=aa hB7 hltx r1;have k2:=aa hB7 hltx r2;have k3:=aa hB7 hltx r3;have k4:=aa hB7 hltx r4;have k5:=aa hB7 hltx r5;have f0:=hR7.fr (m*6);have f1:=hR7.fr (m*6+1);have f2:=hR7.fr (m*6+2);have f3:=hR7.fr (m*6+3);have f4:=hR7.fr (m*6+4);have f5:=hR7.fr (m*6+5);have hne:gt≠g:=by omega
      have hne1:g1≠g:=by have:=HG1.out;omega
      have HFIN:=At (And.intro S1 (And.intro S2 (And.intro S3 S4)));clear S1 S2 S3 S4 r0 r1 r2 r3 r4 r5;refine aC (i:=15) rfl (by kernel_rfl) rfl (fun K hK=>?_);go_simp;refine hK _ _ (fun h _=>by simp at h) ?_;clear hK K k0 k1 k2 k3 k4 k5 f0 f1 f2 f3 f4 f5;try simp only[Act.put,Ax,Aw,Av,Au,Ay,Az]
      refine bC (by kernel_rfl) ?_ _;obtain⟨S1,S2,S3,S4⟩:=HFIN.out;have W1:=(HWI.out.below hB7).apart (by omega) S4 S2;have T1:=(HTI.out.below hB7).blk S3.size (S4 gt hne);have O1:=(H1I.out.below hB7).blk (S4 g1 hne1);have K1:=(HKI.out.below hB7).keepU S2;have B1:=(HBI.out.trans (hB7.mono HBI.out.size)).trans (S3.mono hgb);clear HFIN S2 S3 S4 HWI HTI H1I HKI HRI HBI hB7 hb6 hb7 hk7 HK Q4 hS hR7;change Exit.inBlock 3 _ Exit.normal _ (w7.setCells g (m*6) [.bool um,.slice up ul uc,.slice uq uk ud,.bool vm,.slice vp' vl vc,.slice vq' vk vd]);generalize w7.setCells g (m*6) [.bool um,.slice up ul uc,.slice uq uk ud,.bool vm,.slice vp' vl vc,.slice vq' vk vd]=wf at *
      go_wp2;go_roundw;case rel=>exact⟨B1,W1,T1,O1,K1,Or.inr ⟨rfl,S1⟩⟩
      case measure=>simp[intOf]<;>omega
     ·clear HA;go_wp2;go_roundw;case rel=>exact⟨m,_,rfl,rfl,by omega,hwi,(fun h=>absurd h (by omega)),hRi,hti,hbi⟩
      case measure=>simp[intOf]<;>omega
end Go.Proofs.YtgakllaobooabaaGreatDoor
