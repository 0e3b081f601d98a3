/- L -/
import Derived.RangeFuncNested
import Derived.RangeFuncBound
import Derived.RangeFuncCalls
import Derived.RangeFuncLeaves
import Derived.Shelf.Abstract
import Derived.Shelf.RegionOpen
import Derived.OwnWalkIn
import Derived.TacticsInMore
import Derived.LoopNIn
import Derived.LoopIn
import Derived.OwnWalk
import Derived.Test.YtlhpcoelfhjomaaGreatDoorQReg
import Derived.Test.YtlhpcoelfhjomaaGreatDoorQPL3
set_option linter.all false
set_option maxRecDepth 100000
set_option maxHeartbeats 8000000
namespace Go.Proofs.YtlhpcoelfhjomaaGreatDoor
open Go.RowKit Dg
def iB (zs:List CQ) (j:Nat):List CQ:=zs.take j++List.replicate (zs.length-j) ⟨0,0⟩
theorem fS (zs:List CQ) {j:Nat} (h:j<=zs.length):(iB zs j).length=zs.length:=by simp[iB];omega
theorem Bg (zs:List CQ):iB zs zs.length=zs:=by simp[iB]
theorem sy (zs:List CQ) {j:Nat} (h:j<zs.length) (h':j<(iB zs (j+1)).length):(iB zs (j+1))[j]=zs[j]:=by
 have hm:j<min (j+1) zs.length:=by omega
 simp[iB,List.getElem_append,hm]
theorem Bh (zs:List CQ) {j:Nat} (h:j<zs.length):(iB zs (j+1)).set j ⟨0,0⟩=iB zs j:=by
 unfold iB;rw[<-IL h,I_,List.set_append_right _ _ (by simp;omega)];rw[IY,Jp (JI h),JJ,Kw,Iu,show zs.length-j=zs.length-(j+1)+1 from by omega,Kj]
theorem qy {c:CQ} (h:c≠⟨0,0⟩):0<(n9 (ct c)).n:=by
 rw[qw];rcases Jd (rt c.norm).n with h0 | h0
 ·exact absurd ((bB _).1 h0) (CQ.norm_ne h)
 ·exact h0
theorem EG {z c:CQ} (hz:SzV 300 (ct z)) (hc:SzV 300 (ct c)) (h:c≠⟨0,0⟩):SzV 10000 (ct (z.div c)):=by
 rw[<-kz h];exact ((hz.times hc.conj).times (SzV.plain (hc.norm.inv (qy h)) (by decide))).mono (by decide)
theorem yx (vp vq:Value) (zs:List CQ) (c:CQ) (w:World) (hp:IsP w vp zs) (hq:IsP w vq [c]) (hc:c≠⟨0,0⟩) (hz0:0<zs.length) (hl:zs.length<=33) (hs:SzL 300 zs) (hsc:SzV 300 (ct c)) :
  Calls Tryz.prog 178 #[vp,vq] w fun e w'=>∃ v1 v2,e=.returned (.tuple #[v1,v2])/\IsP w' v1 (dq (lS zs c))/\IsP w' v2 []/\Below w.heap.size w w':=by
 obtain⟨p,cp,rfl,-⟩:=id hp.form;obtain⟨q,cq,rfl,-⟩:=id hq.form;have HS:=Ip hs;have HSC:=Ip hsc;have HC:=Ip hc;obtain⟨Bq,oq,rfl,hltq,cm,cp1,cl1,cc1,cq1,ck1,cd1,dm,dp1,dl1,dc1,dq1,dk1,dd1,hkq,a0,a1,a2,a3,a4,a5⟩:=hq.get (i:=0) (by simp);simp only[JE,I7,Ir] at hkq a0 a1 a2 a3 a4 a5;have HQ:=Ip hkq;have HA:=Ip (And.intro a0 (And.intro a1 (And.intro a2 (And.intro a3 (And.intro a4 a5)))));clear hs hsc hc hkq;go_enter Tryz.func178,Tryz.ntmps178;have hb:=aj w (.cells #[] 93);have hE:=yy w w.heap.size (Iw _);have hP2:=hp.below hb;go_wp2_with (at_builtin;refine jt 149 150 Tryz.underlying149 Tryz.underlying150 rfl (.tmp 13) (.tmp 14) rfl w.heap.size _ _ [] zs rfl hE rfl hP2 (fun h=>by rw[h] at hz0;simp at hz0) (by simp;omega) (by rw[size_alloc];omega) ?_)
 intro v6 w1 hw1 hb1 hu1 _;have hB1:=hb1 _ _ hb (Iw _);try rw[I8] at hw1
 obtain⟨g,cap,rfl,hgb,hR⟩:=iO.of_own hw1 hz0;have HR1:=Ip hR;have b0:=ag hB1 hltq a0;have b1:=ag hB1 hltq a1;have b2:=ag hB1 hltq a2;have b3:=ag hB1 hltq a3;have b4:=ag hB1 hltq a4;have b5:=ag hB1 hltq a5;have hg1:=hR.lt;clear hb hE hP2 hb1 hu1 hw1 hR a0 a1 a2 a3 a4 a5;go_upto_region 3 with fail
 have q2:=cC.new w1 (.bool cm) (.slice cp1 cl1 cc1) (.slice cq1 ck1 cd1) (.bool dm) (.slice dp1 dl1 dc1) (.slice dq1 dk1 dd1) 93;have m2:=aj w1 (.cells #[.bool cm,.slice cp1 cl1 cc1,.slice cq1 ck1 cd1,.bool dm,.slice dp1 dl1 dc1,.slice dq1 dk1 dd1] 93);generalize w1.alloc (.cells #[.bool cm,.slice cp1 cl1 cc1,.slice cq1 ck1 cd1,.bool dm,.slice dp1 dl1 dc1,.slice dq1 dk1 dd1] 93)=w2 at *
 have hws:w.heap.size<=w1.heap.size:=hB1.size;obtain⟨gt,hgt⟩:∃ gt,gt=w1.heap.size:=⟨_,rfl⟩;rw[<-hgt] at q2 hg1 hws |-;have HR2:=Ip (HR1.out.below m2);have HB2:=Ip (LK hB1 m2);have HT:=Ip q2;clear q2 m2 hgt hB1 HR1 b0 b1 b2 b3 b4 b5;go_wp2;go_loopw [8,9] (fun s8 s9 wr=>∃ (j:Nat) (z:Int),s9=.int .i64 z/\z=(j:Int)-1/\j<=zs.length/\ej wr (gt+1) s8 ((lS zs c).drop j)/\Hid (j=zs.length->s8=.slice none 0 0)/\iO wr g cap (iB zs j)/\cC wr gt (.bool cm) (.slice cp1 cl1 cc1) (.slice cq1 ck1 cd1) (.bool dm) (.slice dp1 dl1 dc1) (.slice dq1 dk1 dd1)/\Below w.heap.size w wr) (fun _ s9 _=>(intOf s9+1).toNat)
 case atStart=>exact⟨zs.length,_,rfl,rfl,Iw _,by rw[List.drop_of_length_le (by rw[kC];exact Iw _)];exact ej.nil _ _,fun _=>rfl,by rw[Bg];exact HR2.out,HT.out,HB2.out⟩
 case round =>
  obtain⟨j,z,rfl,hz,hj,hown,hnil,hR,hT,hbr⟩:=hrel;by_cases h0:j=0
  ·subst h0;obtain rfl:z=-1:=by omega
   have hw:=hown.isP;rw[IA] at hw;have hw2:=hR.isP;rw[fS zs (IF _)] at hw2;have HW:=Ip hw;have HW2:=Ip hw2;have hql:(lS zs c).length<1000000:=by rw[kC];omega
   have hll:(iB zs 0).length<1000000:=by rw[fS zs (IF _)];omega
   clear hown hnil hR hT hz hw hw2;go_wp2_with fail
   refine (sw _ _ wr HW.out hql).mono ?_;rintro e w4 ⟨v1,rfl,hv1,hb4⟩;go_wp2_with fail
   refine (sw _ _ w4 (HW2.out.below hb4) hll).mono ?_;rintro e w5 ⟨v2,rfl,hv2,hb5⟩;rw[show dq (iB zs 0)=[] from n8 _] at hv2;go_wp2;refine LM (v:=.tuple #[v1,v2]) (by simp[results,Tryz.results178,go_sem]) rfl ⟨v1,v2,rfl,hv1.below hb5,hv2,LK hbr (LK hb4 hb5)⟩
  ·obtain⟨m,rfl⟩:∃ m,j=m+1:=⟨j-1,by omega⟩;obtain rfl:z=(m:Int):=by omega
   have hm:m<zs.length:=by omega
   obtain⟨Bx,ox,hx,hltx,xm,xp,xl,xc,xq,xk,xd,ym,yp,yl,yc,yq,yk,yd,hkz,r0,r1,r2,r3,r4,r5⟩:=hR.isP.get (i:=m) (by rw[fS zs hj];exact hm);obtain⟨rfl,rfl⟩:g=Bx/\0=ox:=by simpa using hx
   rw[sy zs hm] at hkz;have HZ:=Ip (HS.out _ (IS hm));have HQD:=Ip (BE zs c hm);obtain⟨z0,hz0'⟩:∃ z,z=zs[m]:=⟨_,rfl⟩;rw[<-hz0'] at hkz HZ HQD;have HZ0:=Ip hz0';simp only[Jk] at r0 r1 r2 r3 r4 r5;have HK:=Ip hkz;have HOW:=Ip hown;have HRR:=Ip hR;have HTT:=Ip hT;clear hz h0 hkz hown hR hx HR2 HT HB2 hz0';go_upto_region 7 with fail
   have HN:=Ip (show 0<(n9 (ct c)).n from qy HC.out);have HDV:=Ip (EG HZ.out HSC.out HC.out);clear hT
   go_cut [10] from 31 to 40 (fun s10 wx=>∃ (g1:Nat) (sm:Bool) (sp:Option Addr) (sl sc:Nat) (sq:Option Addr) (sk sd:Nat) (tm:Bool) (tp:Option Addr) (tl tc:Nat) (tq:Option Addr) (tk td:Nat),s10=.pointer (some ⟨g1,0,none⟩)/\du wx g1 (.bool sm) (.slice sp sl sc) (.slice sq sk sd) (.bool tm) (.slice tp tl tc) (.slice tq tk td)/\IsK wx (.agg #[.bool sm,.slice sp sl sc,.slice sq sk sd,.bool tm,.slice tp tl tc,.slice tq tk td]) (z0.div c)/\wr.heap.size<=g1/\Below wr.heap.size wr wx)
   case first =>
    have hBd:Below wr.heap.size wr wr.drew:=(LN _ _).drew;refine wp_mono (ax (Q:=aP _) (fun wx:World=>Below wr.drew.heap.size wr.drew wx) (fun i=>i == 11) (by kernel_rfl) ?_) (fun _ _ _ h=>aY h);have hS:Below wr.drew.heap.size wr.drew wr.drew:=LN _ _;generalize wr.drew=wd at *
    have hw1:IntKind.i64.wrap ((m:Int)+1)=(m:Int)+1:=IntWalk.i64_in _ (by omega);have hw2:IntKind.i64.wrap (m:Int)=(m:Int):=IntWalk.i64_in _ (by omega);have hmI:(m:Int)<(zs.length:Int):=by omega
    have hm0:0<=(m:Int):=by omega
    refine LJ 0 (r:=?_)
    refine LJ 1 (r:=?_)
    refine LJ 2 (r:=?_)
    refine LJ 3 (r:=?_)
    refine LJ 4 (r:=?_)
    refine LJ 5 (r:=?_)
    refine LJ 6 (r:=?_)
    refine ay (i:=7) (v:=?vv7) rfl (by kernel_rfl) (fun _ _ _ h=>h) rfl hS ?hy7 ?rest7
    case hy7 =>
     intro wy hy;have r:=HRR.out.isP.get (i:=m) (by rw[fS zs hj];exact hm);have hBy:=Below.trans hBd (hy.mono hBd.size);have b0:=ag hBy hltx r0;have b1:=ag hBy hltx r1;have b2:=ag hBy hltx r2;have b3:=ag hBy hltx r3;have b4:=ag hBy hltx r4;have b5:=ag hBy hltx r5;have e1:=HTT.out.below hBy;have c0:=e1.c0;have c1:=e1.c1;have c2:=e1.c2;have c3:=e1.c3;have c4:=e1.c4;have c5:=e1.c5;clear e1 r hBy hy;go_simp;try with_reducible rfl
    refine ay (i:=8) (v:=?vv8) rfl (by kernel_rfl) (fun _ _ _ h=>h) rfl hS ?hy8 ?rest8
    case hy8 =>
     intro wy hy;have r:=HRR.out.isP.get (i:=m) (by rw[fS zs hj];exact hm);have hBy:=Below.trans hBd (hy.mono hBd.size);have b0:=ag hBy hltx r0;have b1:=ag hBy hltx r1;have b2:=ag hBy hltx r2;have b3:=ag hBy hltx r3;have b4:=ag hBy hltx r4;have b5:=ag hBy hltx r5;have e1:=HTT.out.below hBy;have c0:=e1.c0;have c1:=e1.c1;have c2:=e1.c2;have c3:=e1.c3;have c4:=e1.c4;have c5:=e1.c5;clear e1 r hBy hy;go_simp;try with_reducible rfl
    try simp only[Act.put,It,Is,Ir,Iq,Iu,Iv]
    clear hw1 hw2 hmI hm0;refine dN (i:=9) (i':=10) rfl rfl (by kernel_rfl) rfl rfl (fun K hK=>?_) (fun K hK=>?_)
    ·go_simp;refine (ug _ _ _ _ 300 300 wd ((HK.out.below (hBd.trans (Below.mono hS hBd.size))).v) ((HQ.out.below (hbr.trans ((hBd.trans (Below.mono hS hBd.size)).mono hbr.size))).v) HZ.out HSC.out HN.out (by decide)).mono ?_;rintro e w4 ⟨v4,rfl,hv4,hb4⟩;rw[kz HC.out] at hv4;have hk4:IsK w4 v4 (z0.div c):=⟨hv4,HDV.out⟩;obtain⟨sm,sp,sl,sc,sq,sk,sd,tm,tp,tl,tc,tq,tk,td,rfl⟩:=hk4.forms;have hB4:=Below.trans hS (hb4.mono (Below.size hS));refine hK _ _ (fun _ _=>hB4) ?_;clear hK K hv4;try simp only[Act.put,It,Is,Ir,Iq,Iu,Iv]
     refine ar (i:=10) rfl (by kernel_rfl) rfl (fun K hK=>?_);go_simp;have B3:=du.new w4 (.bool false) (.slice none 0 0) (.slice none 0 0) (.bool false) (.slice none 0 0) (.slice none 0 0) nofun nofun nofun nofun nofun nofun;have mA:=aj w4 (.cells #[.bool false,.slice none 0 0,.slice none 0 0,.bool false,.slice none 0 0,.slice none 0 0] 93);have hC:=Below.trans hB4 (mA.mono (Below.size hB4));refine hK _ _ (fun _ _=>hC) ?_;clear hK K;try simp only[Act.put,It,Is,Ir,Iq,Iu,Iv]
     generalize w4.alloc (.cells #[.bool false,.slice none 0 0,.slice none 0 0,.bool false,.slice none 0 0,.slice none 0 0] 93)=wc at *
     have B8:=B3;have hk4:=hk4.below mA;have hle:wr.heap.size<=w4.heap.size:=by have:=hBd.size;have:=hB4.size;omega
     have k0:=B8.cell 0;have k1:=B8.cell 1;have k2:=B8.cell 2;have k3:=B8.cell 3;have k4:=B8.cell 4;have k5:=B8.cell 5;have f0:=B8.fr 0;have f1:=B8.fr 1;have f2:=B8.fr 2;have f3:=B8.fr 3;have f4:=B8.fr 4;have f5:=B8.fr 5;have P:=Ip (B8.putV hk4.v.parts.1 hk4.v.parts.2);have M8:=Ip (P.out.2.2 _ _ (hBd.trans (Below.mono hC hBd.size)) hle);have HP:=Ip (show IsK _ _ _ from⟨P.out.2.1,hk4.s⟩);refine ar (i:=11) rfl (by kernel_rfl) rfl (fun K hK=>?_);go_simp;refine hK _ _ (fun h _=>by simp at h) ?_;clear hK K k0 k1 k2 k3 k4 k5 f0 f1 f2 f3 f4 f5;try simp only[Act.put,It,Is,Ir,Iq,Iu,Iv]
     refine aF (by kernel_rfl) ?_ _;simp only[aP];try go_wp2
     go_meet;exact⟨w4.heap.size,sm,sp,sl,sc,sq,sk,sd,tm,tp,tl,tc,tq,tk,td,rfl,P.out.1,HP.out,hle,M8.out⟩
    ·go_simp;have B3:=du.new wd (.bool false) (.slice none 0 0) (.slice none 0 0) (.bool false) (.slice none 0 0) (.slice none 0 0) nofun nofun nofun nofun nofun nofun;have mA:=aj wd (.cells #[.bool false,.slice none 0 0,.slice none 0 0,.bool false,.slice none 0 0,.slice none 0 0] 93);have hC:=Below.trans hS (mA.mono (Below.size hS));refine hK _ _ (fun _ _=>hC) ?_;clear hK K;try simp only[Act.put,It,Is,Ir,Iq,Iu,Iv]
     generalize wd.alloc (.cells #[.bool false,.slice none 0 0,.slice none 0 0,.bool false,.slice none 0 0,.slice none 0 0] 93)=wc at *
     refine ar (i:=9) rfl (by kernel_rfl) rfl (fun K hK=>?_);go_simp;refine (ug _ _ _ _ 300 300 wc ((HK.out.below (hBd.trans (Below.mono hC hBd.size))).v) ((HQ.out.below (hbr.trans ((hBd.trans (Below.mono hC hBd.size)).mono hbr.size))).v) HZ.out HSC.out HN.out (by decide)).mono ?_;rintro e w4 ⟨v4,rfl,hv4,hb4⟩;rw[kz HC.out] at hv4;have hk4:IsK w4 v4 (z0.div c):=⟨hv4,HDV.out⟩;obtain⟨sm,sp,sl,sc,sq,sk,sd,tm,tp,tl,tc,tq,tk,td,rfl⟩:=hk4.forms;have hB4:=Below.trans hC (hb4.mono (Below.size hC));refine hK _ _ (fun _ _=>hB4) ?_;clear hK K hv4;try simp only[Act.put,It,Is,Ir,Iq,Iu,Iv]
     have B8:=B3.below hb4;have hle:wr.heap.size<=wd.heap.size:=hBd.size;have k0:=B8.cell 0;have k1:=B8.cell 1;have k2:=B8.cell 2;have k3:=B8.cell 3;have k4:=B8.cell 4;have k5:=B8.cell 5;have f0:=B8.fr 0;have f1:=B8.fr 1;have f2:=B8.fr 2;have f3:=B8.fr 3;have f4:=B8.fr 4;have f5:=B8.fr 5;have P:=Ip (B8.putV hk4.v.parts.1 hk4.v.parts.2);have M8:=Ip (P.out.2.2 _ _ (hBd.trans (Below.mono hB4 hBd.size)) hle);have HP:=Ip (show IsK _ _ _ from⟨P.out.2.1,hk4.s⟩);refine ar (i:=11) rfl (by kernel_rfl) rfl (fun K hK=>?_);go_simp;refine hK _ _ (fun h _=>by simp at h) ?_;clear hK K k0 k1 k2 k3 k4 k5 f0 f1 f2 f3 f4 f5;try simp only[Act.put,It,Is,Ir,Iq,Iu,Iv]
     refine aF (by kernel_rfl) ?_ _;simp only[aP];try go_wp2
     go_meet;exact⟨wd.heap.size,sm,sp,sl,sc,sq,sk,sd,tm,tp,tl,tc,tq,tk,td,rfl,P.out.1,HP.out,hle,M8.out⟩
   case rest =>
    obtain⟨g1,sm,sp,sl,sc,sq,sk,sd,tm,tp,tl,tc,tq,tk,td,rfl,h10,hkd,hg1',hb2⟩:=hcut;rename World=>wx;have HG1:=Ip (show g<g1 by omega);have hB2:=LK hbr hb2;have hm1:=aj wx (.cells #[.bool sm,.slice sp sl sc,.slice sq sk sd,.bool tm,.slice tp tl tc,.slice tq tk td] 93);have hownP:=(HOW.out.below hb2).isP.below hm1
    have hnn:(lS zs c).drop (m+1)=[]->u8=.slice none 0 0:=fun h=>hnil.out (by
     have h1:=congrArg List.length h;rw[IP,kC] at h1
     simp at h1;omega)
    have hR2:=Ip (HRR.out.below hb2);have hT2:=Ip (HTT.out.below hb2);have H10:=Ip h10;have hO1:=DT (base:=wx.heap.size) hkd (Iw _);have k0:=h10.cell 0;have k1:=h10.cell 1;have k2:=h10.cell 2;have k3:=h10.cell 3;have k4:=h10.cell 4;have k5:=h10.cell 5;have hdl:[z0.div c].length+((lS zs c).drop (m+1)).length<1000000000:=by rw[IP,kC];simp;omega
    have hzz:wx.heap.size<=(wx.alloc (.cells #[.bool sm,.slice sp sl sc,.slice sq sk sd,.bool tm,.slice tp tl tc,.slice tq tk td] 93)).heap.size:=hm1.size;have HKD:=Ip hkd;clear hm1 hnil h10 hkd HRR HTT r0 r1 r2 r3 r4 r5 HN HK HOW;go_wp2_with (at_builtin;refine jt 149 149 Tryz.underlying149 Tryz.underlying149 rfl (.tmp 42) (.tmp 43) rfl wx.heap.size _ _ [z0.div c] ((lS zs c).drop (m+1)) rfl hO1 rfl hownP hnn hdl hzz ?_)
    intro v8 w5 hw5 hb5 hu5 _;have hB5:=hb5 _ _ (aj wx _) (Iw _)
    have hw5:ej w5 (gt+1) v8 ((lS zs c).drop m):=by
     rw[HQD.out];exact hw5.lower (by have:=hT2.out.lt;omega)
    have H10:=Ip (H10.out.below hB5);have HR5:=Ip (hR2.out.below hB5);have HT5:=Ip (hT2.out.below hB5);have HKD:=Ip (HKD.out.below hB5);have HB5:=Ip (LK hB2 hB5);have HW5:=Ip hw5;have hlt1:gt+1<=wx.heap.size:=by have:=hT2.out.lt;omega
    clear hb5 hu5 hw5 hownP hO1 hnn hdl hzz k0 k1 k2 k3 k4 k5 hR2 hT2 hB5 hB2 hb2;go_wp2;rename World=>wo;go_loopw [47] (fun s47 wi=>Below w.heap.size w wi/\ej wi (gt+1) v8 ((lS zs c).drop m)/\cC wi gt (.bool cm) (.slice cp1 cl1 cc1) (.slice cq1 ck1 cd1) (.bool dm) (.slice dp1 dl1 dc1) (.slice dq1 dk1 dd1)/\du wi g1 (.bool sm) (.slice sp sl sc) (.slice sq sk sd) (.bool tm) (.slice tp tl tc) (.slice tq tk td)/\IsK wi (.agg #[.bool sm,.slice sp sl sc,.slice sq sk sd,.bool tm,.slice tp tl tc,.slice tq tk td]) (z0.div c)/\((s47=.int .i64 0/\iO wi g cap (iB zs (m+1)))\/(s47=.int .i64 1/\iO wi g cap (iB zs m)))) (fun s47 _=>(1-intOf s47).toNat)
    case atStart=>exact⟨HB5.out,HW5.out,HT5.out,H10.out,HKD.out,Or.inl ⟨rfl,HR5.out⟩⟩
    case round =>
     clear HB5 HW5 HT5 H10 HKD HR5;obtain⟨hbi,hwi,hti,h1i,hki,hcase⟩:=hrel;rcases hcase with ⟨rfl,hRi⟩ | ⟨rfl,hRi⟩
     ·obtain⟨a0,a1,a2,a3,a4,a5⟩:=HA.out;have b0:=ag hbi hltq a0;have b1:=ag hbi hltq a1;have b2:=ag hbi hltq a2;have b3:=ag hbi hltq a3;have b4:=ag hbi hltq a4;have b5:=ag hbi hltq a5;have HWI:=Ip hwi;have HTI:=Ip hti;have H1I:=Ip h1i;have HKI:=Ip hki;have HRI:=Ip hRi;have HBI:=Ip hbi;clear a0 a1 a2 a3 a4 a5 hbi hwi hti h1i hki hRi;go_upto_region 12 with fail
      have q4:=cC.new wr (.bool cm) (.slice cp1 cl1 cc1) (.slice cq1 ck1 cd1) (.bool dm) (.slice dp1 dl1 dc1) (.slice dq1 dk1 dd1) 93;have m4:=aj wr (.cells #[.bool cm,.slice cp1 cl1 cc1,.slice cq1 ck1 cd1,.bool dm,.slice dp1 dl1 dc1,.slice dq1 dk1 dd1] 93);obtain⟨g12,hg12⟩:∃ k,k=wr.heap.size:=⟨_,rfl⟩;rw[<-hg12] at q4 |-;clear hg12;generalize wr.alloc (.cells #[.bool cm,.slice cp1 cl1 cc1,.slice cq1 ck1 cd1,.bool dm,.slice dp1 dl1 dc1,.slice dq1 dk1 dd1] 93)=wa at *
      have hd4:Below wa.heap.size wa wa.drew:=(LN _ _).drew;have hBd:=LK m4 hd4;have Q4:=Ip (q4.below hd4);have HWI:=Ip (HWI.out.below hBd);have HTI:=Ip (HTI.out.below hBd);have H1I:=Ip (H1I.out.below hBd);have HKI:=Ip (HKI.out.below hBd);have HRI:=Ip (HRI.out.below hBd);have HBI:=Ip (LK HBI.out hBd);clear q4 m4 hd4 b0 b1 b2 b3 b4 b5;refine ax (fun wx:World=>Below wa.drew.heap.size wa.drew wx) (fun i=>i == 15) (by kernel_rfl) ?_;have hS:Below wa.drew.heap.size wa.drew wa.drew:=LN _ _;clear hBd;generalize wa.drew=wd at *
      obtain⟨Bx,ox,hx,hltx,xm,xp,xl,xc,xq,xk,xd,ym,yp,yl,yc,yq,yk,yd,hkz,r0,r1,r2,r3,r4,r5⟩:=HRI.out.isP.get (i:=m) (by rw[fS zs hj];exact hm);obtain⟨rfl,rfl⟩:g=Bx/\0=ox:=by simpa using hx
      rw[sy zs hm] at hkz;rw[<-HZ0.out] at hkz;simp only[Jk] at r0 r1 r2 r3 r4 r5;have HK:=Ip hkz;have hw2:IntKind.i64.wrap (m:Int)=(m:Int):=IntWalk.i64_in _ (by omega);have hmI:(m:Int)<(zs.length:Int):=by omega
      have hm0:0<=(m:Int):=by omega
      clear hkz hx;refine ai (i:=0) (v:=?vx0) rfl (by kernel_rfl) (fun _ _ _ h=>h) rfl ?hx0 ?resx0;case hx0=>(intro wy;go_simp;try with_reducible rfl)
      refine ai (i:=1) (v:=?vx1) rfl (by kernel_rfl) (fun _ _ _ h=>h) rfl ?hx1 ?resx1;case hx1=>(intro wy;go_simp;try with_reducible rfl)
      refine ai (i:=2) (v:=?vx2) rfl (by kernel_rfl) (fun _ _ _ h=>h) rfl ?hx2 ?resx2;case hx2=>(intro wy;go_simp;try with_reducible rfl)
      refine ai (i:=3) (v:=?vx3) rfl (by kernel_rfl) (fun _ _ _ h=>h) rfl ?hx3 ?resx3;case hx3=>(intro wy;go_simp;try with_reducible rfl)
      refine ai (i:=4) (v:=?vx4) rfl (by kernel_rfl) (fun _ _ _ h=>h) rfl ?hx4 ?resx4;case hx4=>(intro wy;go_simp;try with_reducible rfl)
      refine ai (i:=5) (v:=?vx5) rfl (by kernel_rfl) (fun _ _ _ h=>h) rfl ?hx5 ?resx5;case hx5=>(intro wy;go_simp;try with_reducible rfl)
      refine ai (i:=6) (v:=?vx6) rfl (by kernel_rfl) (fun _ _ _ h=>h) rfl ?hx6 ?resx6;case hx6=>(intro wy;go_simp;try with_reducible rfl)
      refine ai (i:=7) (v:=?vx7) rfl (by kernel_rfl) (fun _ _ _ h=>h) rfl ?hx7 ?resx7;case hx7=>(intro wy;go_simp;try with_reducible rfl)
      refine ai (i:=8) (v:=?vx8) rfl (by kernel_rfl) (fun _ _ _ h=>h) rfl ?hx8 ?resx8;case hx8=>(intro wy;go_simp;try with_reducible rfl)
      refine ay (i:=9) (v:=?vw9) rfl (by kernel_rfl) (fun _ _ _ h=>h) rfl hS ?hz9 ?resu9
      case hz9 =>
       intro wy hy;have b0:=ag hy hltx r0;have b1:=ag hy hltx r1;have b2:=ag hy hltx r2;have b3:=ag hy hltx r3;have b4:=ag hy hltx r4;have b5:=ag hy hltx r5;have e1:=Q4.out.below hy;have c0:=e1.c0;have c1:=e1.c1;have c2:=e1.c2;have c3:=e1.c3;have c4:=e1.c4;have c5:=e1.c5;have e2:=H1I.out.below hy;have d0:=e2.cell 0;have d1:=e2.cell 1;have d2:=e2.cell 2;have d3:=e2.cell 3;have d4:=e2.cell 4;have d5:=e2.cell 5;clear e1 e2 hy;go_simp;try with_reducible rfl
      refine ay (i:=10) (v:=?vw10) rfl (by kernel_rfl) (fun _ _ _ h=>h) rfl hS ?hz10 ?resu10
      case hz10 =>
       intro wy hy;have b0:=ag hy hltx r0;have b1:=ag hy hltx r1;have b2:=ag hy hltx r2;have b3:=ag hy hltx r3;have b4:=ag hy hltx r4;have b5:=ag hy hltx r5;have e1:=Q4.out.below hy;have c0:=e1.c0;have c1:=e1.c1;have c2:=e1.c2;have c3:=e1.c3;have c4:=e1.c4;have c5:=e1.c5;have e2:=H1I.out.below hy;have d0:=e2.cell 0;have d1:=e2.cell 1;have d2:=e2.cell 2;have d3:=e2.cell 3;have d4:=e2.cell 4;have d5:=e2.cell 5;clear e1 e2 hy;go_simp;try with_reducible rfl
      refine ay (i:=11) (v:=?vw11) rfl (by kernel_rfl) (fun _ _ _ h=>h) rfl hS ?hz11 ?resu11
      case hz11 =>
       intro wy hy;have b0:=ag hy hltx r0;have b1:=ag hy hltx r1;have b2:=ag hy hltx r2;have b3:=ag hy hltx r3;have b4:=ag hy hltx r4;have b5:=ag hy hltx r5;have e1:=Q4.out.below hy;have c0:=e1.c0;have c1:=e1.c1;have c2:=e1.c2;have c3:=e1.c3;have c4:=e1.c4;have c5:=e1.c5;have e2:=H1I.out.below hy;have d0:=e2.cell 0;have d1:=e2.cell 1;have d2:=e2.cell 2;have d3:=e2.cell 3;have d4:=e2.cell 4;have d5:=e2.cell 5;clear e1 e2 hy;go_simp;try with_reducible rfl
      try simp only[Act.put,It,Is,Ir,Iq,Iu,Iv]
      refine ar (i:=12) rfl (by kernel_rfl) rfl (fun K hK=>?_);go_simp;refine (jQ _ _ _ _ wd HKI.out.v (HQ.out.below HBI.out).v (HKI.out.s.fewV HSC.out (by decide))).mono ?_;rintro e w6 ⟨v6,rfl,hv6,hb6⟩;rw[dA,CQ.div_mul HC.out] at hv6;refine hK _ _ (fun _ _=>hb6) ?_;clear hK K;try simp only[Act.put,It,Is,Ir,Iq,Iu,Iv]
      refine ar (i:=13) rfl (by kernel_rfl) rfl (fun K hK=>?_);go_simp;refine (Dz _ _ _ _ w6 (HK.out.below hb6).v hv6 (HZ.out.x.fewR HZ.out.x.neg (by decide)) (HZ.out.y.fewR HZ.out.y.neg (by decide))).mono ?_;rintro e w7 ⟨v7,rfl,hv7,hb7⟩;have hB7:=LK hb6 hb7;rw[qi,CQ.sub_self] at hv7;have hk7:IsK w7 v7 ⟨0,0⟩:=⟨hv7,⟨.zero (by decide),.zero (by decide)⟩⟩;obtain⟨um,up,ul,uc,uq,uk,ud,vm,vp',vl,vc,vq',vk,vd,rfl⟩:=hk7.forms;refine hK _ _ (fun _ _=>hB7) ?_;clear hK K hv7 hv6;refine ai (i:=14) (v:=?vx14) rfl (by kernel_rfl) (fun _ _ _ h=>h) rfl ?hx14 ?resx14;case hx14=>(intro wy;go_simp;try with_reducible rfl)
      try simp only[Act.put,It,Is,Ir,Iq,Iu,Iv]
      clear hw2 hmI hm0;have hR7:=HRI.out.below hB7;obtain⟨S1,S2,S3,S4⟩:=hR7.set (k:=m) (by rw[fS zs hj];exact hm) hk7;rw[Bh zs hm] at S1;have k0:=ag hB7 hltx r0;have k1:=ag hB7 hltx r1;have k2:=ag hB7 hltx r2;have k3:=ag hB7 hltx r3;have k4:=ag hB7 hltx r4;have k5:=ag hB7 hltx r5;have f0:=hR7.fr (m*6);have f1:=hR7.fr (m*6+1);have f2:=hR7.fr (m*6+2);have f3:=hR7.fr (m*6+3);have f4:=hR7.fr (m*6+4);have f5:=hR7.fr (m*6+5);have hne:gt≠g:=by omega
      have hne1:g1≠g:=by have:=HG1.out;omega
      have HFIN:=Ip (And.intro S1 (And.intro S2 (And.intro S3 S4)));clear S1 S2 S3 S4 r0 r1 r2 r3 r4 r5;refine ar (i:=15) rfl (by kernel_rfl) rfl (fun K hK=>?_);go_simp;refine hK _ _ (fun h _=>by simp at h) ?_;clear hK K k0 k1 k2 k3 k4 k5 f0 f1 f2 f3 f4 f5;try simp only[Act.put,It,Is,Ir,Iq,Iu,Iv]
      refine aF (by kernel_rfl) ?_ _;obtain⟨S1,S2,S3,S4⟩:=HFIN.out;have W1:=(HWI.out.below hB7).apart (by omega) S4 S2;have T1:=(HTI.out.below hB7).blk S3.size (S4 gt hne);have O1:=(H1I.out.below hB7).blk (S4 g1 hne1);have K1:=(HKI.out.below hB7).keepU S2;have B1:=(LK HBI.out hB7).trans (S3.mono hgb);clear HFIN S2 S3 S4 HWI HTI H1I HKI HRI HBI hB7 hb6 hb7 hk7 HK Q4 hS hR7;change Exit.inBlock 3 _ Exit.normal _ (w7.setCells g (m*6) [.bool um,.slice up ul uc,.slice uq uk ud,.bool vm,.slice vp' vl vc,.slice vq' vk vd]);generalize w7.setCells g (m*6) [.bool um,.slice up ul uc,.slice uq uk ud,.bool vm,.slice vp' vl vc,.slice vq' vk vd]=wf at *
      go_wp2;go_roundw;case rel=>exact⟨B1,W1,T1,O1,K1,Or.inr ⟨rfl,S1⟩⟩
      case measure=>simp[intOf]<;>omega
     ·clear HA;go_wp2;go_roundw;case rel=>exact⟨m,_,rfl,rfl,by omega,hwi,(fun h=>absurd h (by omega)),hRi,hti,hbi⟩
      case measure=>simp[intOf]<;>omega
inductive ph:List CQ->List CQ->Prop
 | one (c:CQ) (h:c≠⟨0,0⟩) (hs:SzV 300 (ct c)):ph [c] []
 | two (a c:CQ) (h:c≠⟨0,0⟩) (hs:SzV 300 (ct a)) (hc:SzV 300 (ct c)):ph [a,c] [c]
theorem q_ {k:Nat} (h:10<=k):SzV k (ct (CQ.real 1)):=SzV.mono (uC (n:=1) (by decide)) h
theorem Fg (vp vq:Value) (zs qs:List CQ) (w:World) (hp:IsP w vp zs) (hq:IsP w vq qs) (hpq:ph zs qs) :
  Calls Tryz.prog 179 #[vp,vq] w fun e w'=>∃ v,e=.returned v/\IsP w' v [CQ.real 1]/\Below w.heap.size w w':=by
 go_enter Tryz.func179,Tryz.ntmps179;go_wp2;go_loopw [0,1] (fun s0 s1 wr=>∃ ps rs,IsP wr s0 ps/\IsP wr s1 rs/\ph ps rs/\Below w.heap.size w wr) (fun _ s1 _=>yo s1)
 case atStart=>exact⟨zs,qs,hp,hq,hpq,LN _ _⟩
 case round =>
  clear hp hq hpq;obtain⟨ps,rs,hp,hq,hpq,hbr⟩:=hrel
  cases hpq with
  | two a c hc hsa hsc =>
   obtain⟨p,cp,rfl,-⟩:=id hp.form;obtain⟨q,cq,rfl,-⟩:=id hq.form
   have HO:=Ip (yx _ _ [a,c] c wr hp hq hc (by simp) (by simp) (fun z hz=>by
    simp only[Jv,Ki,or_false] at hz;rcases hz with rfl | rfl
    ·exact hsa
    ·exact hsc) hsc)
   have HQ:=Ip hq;have HP2:=Ip (ph.one c hc hsc);clear hp hq hc hsa hsc;go_wp2_with fail
   refine HO.out.mono ?_;rintro e w2 ⟨v1,v2,rfl,hv1,hv2,hb2⟩;have hq2:=HQ.out.below hb2;have hB2:=LK hbr hb2;obtain⟨p2,c2,rfl,-⟩:=id hv2.form;clear hbr hb2 HQ HO;go_wp2;go_roundw;case rel=>exact⟨_,_,hq2,hv2,HP2.out,hB2⟩
   case measure=>simp[yo]
  | one c hc hsc =>
   obtain⟨p,cp,rfl,-⟩:=id hp.form;obtain⟨q,cq,rfl,-⟩:=id hq.form;go_upto_region 6 with fail
   obtain⟨b,o,rfl,hlt,xm,xp,xl,xc,xq,xk,xd,ym,yp,yl,yc,yq,yk,yd,hk,a0,a1,a2,a3,a4,a5⟩:=hp.get (i:=0) (by simp);simp only[JE,I7,Ir] at hk a0 a1 a2 a3 a4 a5;have hBd:Below wr.heap.size wr wr.drew:=(LN _ _).drew;have HP:=Ip (hp.below hBd);have HK:=Ip (hk.below hBd);have HB:=Ip (LK hbr hBd);refine av (fun w'=>∃ x:az wr.drew.heap.size wr.drew,w'=x.w) (fun i=>i == 1||i == 2||i == 9||i == 10) (by kernel_rfl) (by kernel_rfl) ⟨⟨_,LN _ _⟩,rfl⟩ ?_;have hz:wr.drew.heap.size<=wr.drew.heap.size:=Iw _;have hltd:b<wr.drew.heap.size:=Iz hlt hBd.size;have d0:=ag hBd hlt a0;have d1:=ag hBd hlt a1;have d2:=ag hBd hlt a2;have d3:=ag hBd hlt a3;have d4:=ag hBd hlt a4;have d5:=ag hBd hlt a5;clear hp hq hk hbr hBd a0 a1 a2 a3 a4 a5;generalize wr.drew=wd at *
   have c0:=fun x:az wd.heap.size wd=>ag x.h hltd d0;have c1:=fun x:az wd.heap.size wd=>ag x.h hltd d1;have c2:=fun x:az wd.heap.size wd=>ag x.h hltd d2;have c3:=fun x:az wd.heap.size wd=>ag x.h hltd d3;have c4:=fun x:az wd.heap.size wd=>ag x.h hltd d4;have c5:=fun x:az wd.heap.size wd=>ag x.h hltd d5;clear d0 d1 d2 d3 d4 d5;refine ak 1 0 _ _ _ (by kernel_rfl) ?_;simp only[Ix,IC,Iy,IA];repeat (go_big_quiet_step (fail))
   refine wpQuiet_nil ?_;refine ap rfl rfl (fun K hK=>?_);go_simp;refine (kJ 1 wd (by decide) (by decide)).mono ?_;rintro e w4 ⟨v4,rfl,hv4,hb4⟩;refine hK _ _ ⟨⟨_,hb4.mono hz⟩,rfl⟩ ?_;clear hK K;try simp only[Act.put,It,Is,Ir,Iq,Iu,Iv]
   refine ap rfl rfl (fun K hK=>?_);go_simp;refine (fI _ _ _ hv4).mono ?_;rintro e w5 ⟨v5,rfl,hv5,hb5⟩;have hB5:=LK hb4 hb5;rw[dX] at hv5;refine hK _ _ ⟨⟨_,hB5.mono hz⟩,rfl⟩ ?_;clear hK K;try simp only[Act.put,It,Is,Ir,Iq,Iu,Iv]
   refine ak 6 3 _ _ _ (by kernel_rfl) ?_;simp only[Ix,IC,Iy,IA];repeat (go_big_quiet_step (fail))
   refine wpQuiet_nil ?_;refine ap rfl rfl (fun K hK=>?_);go_simp;refine (ug _ _ _ _ 300 300 w5 hv5 (HK.out.below hB5).v (q_ (by decide)) hsc (qy hc) (by decide)).mono ?_;rintro e w6 ⟨v6,rfl,hv6,hb6⟩;have hB6:=LK hB5 hb6;rw[kz hc] at hv6;refine hK _ _ ⟨⟨_,hB6.mono hz⟩,rfl⟩ ?_;clear hK K;try simp only[Act.put,It,Is,Ir,Iq,Iu,Iv]
   refine ap rfl rfl (fun K hK=>?_);go_simp
   refine (Ag _ _ [c] _ w6 (HP.out.below hB6) ⟨hv6,EG (q_ (by decide)) hsc hc⟩ (fun z hz=>by
    simp only[Jv,Ki,or_false] at hz;subst hz;have h1:=CQ.mul_inv hc;rw[show CQ.real ((1:Int):Rat)=CQ.real 1 from rfl,h1]
    exact q_ (by decide)) (by simp)).mono ?_
   rintro e w7 ⟨v7,rfl,hv7,hb7⟩;have hB7:=LK hB6 hb7;rw[show CQ.real ((1:Int):Rat)=CQ.real 1 from rfl,wS hc] at hv7;refine hK _ _ ⟨⟨_,hB7.mono hz⟩,rfl⟩ ?_;clear hK K;try simp only[Act.put,It,Is,Ir,Iq,Iu,Iv]
   refine ak 1 11 _ _ _ (by kernel_rfl) ?_;simp only[Ix,IC,Iy,IA];repeat (go_big_quiet_step (fail))
   refine wpQuiet_nil ?_;refine aE ?_;have HF:=Ip (LK HB.out hB7);clear hB5 hB6 hB7 hb4 hb5 hb6 hb7 hv4 hv5 hv6 HB HP HK c0 c1 c2 c3 c4 c5;go_wp2;go_ret;exact⟨_,rfl,hv7,HF.out⟩
open Go.RowKit Go.Shelf Dg
theorem GF (v:Value) (zs:List CQ) (w:World) (hl:IsP w v zs) :
  Calls Tryz.prog 211 #[v] w fun e w'=>e=.returned (.func (.func 237) #[] #[.pointer (some ⟨w.heap.size,0,none⟩)])/\w'.heap[w.heap.size]?=some (.cells #[v] 150 (0,0))/\w.heap.size<w'.heap.size/\IsP w' v zs/\Below w.heap.size w w':=by
 obtain⟨p,c,rfl,-⟩:=id hl.form;have c0:=heap_alloc_new w (.cells #[.slice p zs.length c] 150 (0,0));have m1:=aj w (.cells #[.slice p zs.length c] 150);have z1:=size_alloc w (.cells #[.slice p zs.length c] 150);have HL:=Ip (hl.below m1);have H0:=Ip (And.intro c0 (And.intro (show w.heap.size<(w.alloc (.cells #[.slice p zs.length c] 150)).heap.size by omega) m1));clear c0 m1 z1 hl;go_enter Tryz.func211,Tryz.ntmps211;go_wp2;go_ret;exact⟨rfl,H0.out.1,H0.out.2.1,HL.out,H0.out.2.2⟩
theorem eo {w:World}{g:Nat}{v:Value}{T:TypeId} (h:w.heap[g]?=some (.cells #[v] T (0,0))):w.cell? ⟨g,0,none⟩=some v/\w.frozen? ⟨g,0,none⟩=false:=by
 constructor
 ·rw[World.cell?,h];rfl
 ·rw[World.frozen?,h];simp
theorem pA {w:World}{g:Nat}{v:Value}{T:TypeId} (h:w.heap[g]?=some (.cells #[v] T (0,0))) (hv:∀ z,v≠.int .u64 z):uO (fun k=>k=g) AB w:=by
 rintro k rfl j u hc;rw[World.cell?,h] at hc;simp only[Jl,IW,if_false] at hc
 have hj:j=0:=by
  have:=(ID.1 hc).1;simpa using this
 subst hj;simp at hc;subst hc;rintro (h | ⟨z,e⟩)
 ·omega
 ·exact hv z e
theorem fO.pair {zs:List CQ} (h:fO zs) (hs:SzL 300 zs):ph zs (AV zs):=by
 cases h with
 | one c h=>rw[CP];exact .one c h (hs c (by simp))
 | two a c h=>rw[CS h];exact .two a c h (hs a (by simp)) (hs c (by simp))
theorem EH:SzV 10000 (ct (CQ.real (((-1:Int)):Rat))):=by
 rw[show CQ.real (((-1:Int)):Rat)=(CQ.real 1).neg from by decide,<-zW];exact (q_ (by decide)).neg
def Ce (zs:List CQ) (i:Nat) (W:World) (vs:Array Value):Prop:=∃ v l,vs=#[v]/\(cF zs)[i]?=some l/\IsP W v l
attribute [local go_sem] Oper.semAt_some
theorem uS (n:Nat) (hn:3<=n) (g:Nat) (vp:Value) (zs:List CQ) (w:World) (Sb:Nat->Prop) (hbox:w.heap[g]?=some (.cells #[vp] 150 (0,0))) (hp:IsP w vp zs) (h2:fO zs) (hs:SzL 300 zs) (hsb:¬ Sb g) :
  xC Fence.wide n Tryz.prog 237 #[] #[.pointer (some ⟨g,0,none⟩)] (Ce zs) (cF zs).length Sb (fun k=>k=g) (uO Sb AB) w:=by
 intro l J W hW hJ hOk hY h0;have hgl:g<w.heap.size:=(ID.1 hbox).1;have hb0:=(hW.block g hgl).trans hbox;have hpW:=hp.below hW;have HY:=Ip hY;have HJ:=Ip hJ;have HOK:=Ip hOk;have HPR:=Ip (h2.pair hs)
 have HFIT:=Ip (show ∀ z∈zs,∀ n:Nat,n<33->SzV 10000 (ct (z.mul (CQ.real ((n:Nat):Int)))) from fun z hz n hn=>by
  rw[<-dA]
  exact ((hs z hz).times (uC (by omega))).mono (by decide))
 have hzl:zs.length<=33:=by cases h2<;>simp
 obtain⟨p,c,rfl,-⟩:=id hpW.form;have HP:=Ip hpW;have HB:=Ip hb0;have c0:=(eo hb0).1;clear hW hY hJ hOk hbox hp hpW h2 hs hb0;refine callsIn_of_wp Tryz.func237 rfl trivial ?_ rfl;simp only[Tryz.ntmps237,KY,IT,Jn,Nat.reduceAdd,Nat.reduceSub,Ky,Kz,KX,KI,I8,Jf]
 gi_wp2_with fail
 refine⟨trivial,fun _=>by omega,(callsIn_wide.2 (vv _ zs W HP.out HFIT.out hzl)).mono ?_⟩;rintro e W2 ⟨q,rfl,hq,hb2⟩;have HB2:=Ip ((hb2.block g (ID.1 HB.out).1).trans HB.out);have HP2:=Ip (HP.out.below hb2);have h02:=HJ.out _ _ _ h0 (cR.of_below hb2);clear h0 hb2 c0 HB HP
 gi_wp2
 gi_loopw [3] (fun s3 wr=>∃ (i:Nat) (vp:Value) (ps qs:List CQ),wr.heap[g]?=some (.cells #[vp] 150 (0,0))/\IsP wr vp ps/\IsP wr s3 qs/\ph ps qs/\J i wr/\Hid ((cF zs).drop i=cF ps)) (fun s3 _=>yo s3)
 case atStart=>exact⟨0,_,_,_,HB2.out,HP2.out,hq,HPR.out,h02,rfl⟩
 case round =>
  clear HB2 HP2 hq HPR h02;obtain⟨i,vp,ps,qs,hbx,hp,hq,hpq,hJi,hdrop⟩:=hrel;obtain⟨p,cp,rfl,-⟩:=id hp.form;obtain⟨qp,cq,rfl,-⟩:=id hq.form;have c0:=(eo hbx).1;have hgl:=(ID.1 hbx).1
  cases hpq with
  | one a ha hsa =>
   have hdrop':(cF zs).drop i=[[a]]:=hdrop.out
   have hi:i<(cF zs).length:=by
    have:=congrArg List.length hdrop';simp at this;omega
   have hlen:(cF zs).length=i+1:=by
    have:=congrArg List.length hdrop';simp at this;omega
   have hget:(cF zs)[i]?=some [a]:=by
    have:=J1 (xs:=cF zs) (i:=i) (j:=0);rw[hdrop'] at this;simpa using this.symm
   obtain⟨fn,tmps,assign,body,hy,hR⟩:=HY.out i hi wr #[.slice p [a].length cp] hJi ⟨_,_,rfl,hget,hp⟩;clear HY HJ HOK hJi hp hq hdrop hdrop' hget;have hy:(Instr.yield l #[.slice p 1 cp]).run Tryz.prog wr=.ok (.round l fn tmps assign body) wr:=hy
   gi_wp2
   refine⟨fun _=>by omega,hR.mono ?_⟩;rintro e W' ⟨rfl,hJ',hT⟩
   gi_wp2
   refine LM (v:=.tuple #[]) (by simp[results,Tryz.results237,go_sem]) rfl ⟨⟨_,rfl⟩,by rw[hlen];exact hJ'⟩
  | two a b hb hsa hsb =>
   have hdrop':(cF zs).drop i=[[a,b],[b]]:=hdrop.out
   have hi:i<(cF zs).length:=by
    have:=congrArg List.length hdrop';simp at this;omega
   have hdrop2:(cF zs).drop (i+1)=[[b]]:=by
    have:=congrArg (List.drop 1) hdrop'
    rwa [List.drop_drop] at this
   have hget:(cF zs)[i]?=some [a,b]:=by
    have:=J1 (xs:=cF zs) (i:=i) (j:=0);rw[hdrop'] at this;simpa using this.symm
   obtain⟨fn,tmps,assign,body,hy,hR⟩:=HY.out i hi wr #[.slice p [a,b].length cp] hJi ⟨_,_,rfl,hget,hp⟩;have hsafe:=HOK.out _ _ hJi;have HQ:=Ip hq;have HP:=Ip hp;have HBX:=Ip hbx;have HD2:=Ip hdrop2;have hy:(Instr.yield l #[.slice p 2 cp]).run Tryz.prog wr=.ok (.round l fn tmps assign body) wr:=hy;clear hJi hp hq hdrop hdrop' hdrop2 hget hbx
   gi_wp2
   refine⟨fun _=>by omega,hR.mono ?_⟩;rintro e W' ⟨rfl,hJ',hT⟩;have hkeep:=jY.of_turns hT hsafe;have HQ:=Ip (HQ.out.keep hkeep);have HP:=Ip (HP.out.keep hkeep);have HBX:=Ip ((hT.block g hgl ‹¬ Sb g›).trans HBX.out);have c0:=(eo HBX.out).1;have HJ':=Ip hJ';clear hR hy hT hsafe hkeep hJ' HY
   gi_wp2_with fail
   refine⟨trivial,fun _=>by omega,(callsIn_wide.2 (yx _ _ [a,b] b W' HP.out HQ.out hb (by simp) (by simp) (fun z hz=>by
    simp only[Jv,Ki,or_false] at hz;rcases hz with rfl | rfl
    ·exact hsa
    ·exact hsb) hsb)).mono ?_⟩
   rintro e W3 ⟨v1,v2,rfl,hv1,hv2,hb3⟩;obtain⟨p2,c2,rfl,-⟩:=id hv2.form;have HQ:=Ip (HQ.out.below hb3);have HBX:=Ip ((hb3.block g (ID.1 HBX.out).1).trans HBX.out);have HJ':=Ip (HJ.out _ _ _ HJ'.out (cR.of_below hb3));have HV2:=Ip hv2;clear HP c0 hb3 hv1 hv2
   gi_wp2_with fail
   refine⟨trivial,fun _=>by omega,(callsIn_wide.2 (kJ (-1) W3 (by decide) (by decide))).mono ?_⟩;rintro e W4 ⟨v4,rfl,hv4,hb4⟩
   gi_wp2_with fail
   refine⟨trivial,fun _=>by omega,(callsIn_wide.2 (fI _ _ _ hv4)).mono ?_⟩;rintro e W5 ⟨v5,rfl,hv5,hb5⟩;rw[dX] at hv5;have hB5:=LK hb4 hb5
   gi_wp2_with fail
   refine⟨trivial,fun _=>by omega,(callsIn_wide.2 (Ag _ _ [] _ W5 (HV2.out.below hB5) ⟨hv5,EH⟩ (fun z hz=>by cases hz) (by simp))).mono ?_⟩;rintro e W6 ⟨v6,rfl,hv6,hb6⟩;rw[show ux [] (CQ.real (((-1:Int)):Rat))=[] from rfl] at hv6;have hB6:=LK hB5 hb6;obtain⟨p6,c6,rfl,-⟩:=id hv6.form;have HQ:=Ip (HQ.out.below hB6);have HBX:=Ip ((hB6.block g (ID.1 HBX.out).1).trans HBX.out);have HJ':=Ip (HJ.out _ _ _ HJ'.out (cR.of_below hB6));have HS6:=Ip (pA HBX.out nofun);obtain⟨k0,f0⟩:=eo HBX.out;have hT:=cR.set (S:=fun k=>k=g) (w:=W6) rfl 0 (.slice qp [b].length cq);have hK:=jY.of_turns hT HS6.out;have HQ:=Ip (HQ.out.keep hK);have HV6:=Ip (hv6.keep hK);have HJ':=Ip (HJ.out _ _ _ HJ'.out hT);have HBX:=Ip (heap_setCell_same W6 g 0 _ _ (.slice qp [b].length cq) HBX.out);clear hB5 hB6 hb4 hb5 hb6 hv4 hv5 hv6 HV2 HS6 hT hK
   gi_wp2
   go_roundw;case rel=>exact⟨i+1,_,[b],[],HBX.out,HQ.out,HV6.out,.one b hb hsb,HJ'.out,HD2.out⟩
   case measure=>simp[yo]
theorem vP {c x:CQ} (hc:SzV 300 (ct c)) (hx:SzV 2000 (ct x)):SzV 20000 (ct (atL [c] x)):=by
 show SzV 20000 (ct (((⟨0,0⟩:CQ).mul x).add c))
 rw[<-gF,<-dA];exact (((show SzV 1 (ct ⟨0,0⟩) from⟨.zero (by decide),.zero (by decide)⟩).times hx).plus hc).mono (by decide)
theorem Dk {a c x:CQ} (ha:SzV 300 (ct a)) (hc:SzV 300 (ct c)) (hx:SzV 2000 (ct x)):SzV 20000 (ct (atL [a,c] x)):=by
 show SzV 20000 (ct (((((⟨0,0⟩:CQ).mul x).add c).mul x).add a))
 rw[<-gF,<-dA,<-gF,<-dA];exact (((((show SzV 1 (ct ⟨0,0⟩) from⟨.zero (by decide),.zero (by decide)⟩).times hx).plus hc).times hx).plus ha).mono (by decide)
/-- an element of the chain is short, and so is its value -/
theorem CD {zs : List CQ} (h : fO zs) (hs : SzL 300 zs) {x : CQ} (hx : SzV 2000 (ct x)) {i : Nat} {l : List CQ} (hl : (cF zs)[i]? = some l) : SzL 300 l /\ l.length <= 7 /\ SzV 20000 (ct (atL l x)) := by
  cases h with
  | one c h =>
    match i, hl with
    | 0, hl => obtain rfl : [c] = l := by simpa [cF] using hl
               exact ⟨hs, by simp, vP (hs c (by simp)) hx⟩
    | i + 1, hl => simp [cF] at hl
  | two a c h =>
    match i, hl with
    | 0, hl => obtain rfl : [a, c] = l := by simpa [cF] using hl
               exact ⟨hs, by simp, Dk (hs a (by simp)) (hs c (by simp)) hx⟩
    | 1, hl => obtain rfl : [c] = l := by simpa [cF] using hl
               refine ⟨fun z hz => ?_, by simp, vP (hs c (by simp)) hx⟩
               exact hs z (by simp at hz; simp [hz])
    | i + 2, hl => simp [cF] at hl
theorem xL (a b:Rat):-1<=eL a b/\eL a b<=1:=by
 unfold eL
 split
 ·decide
 ·split<;>decide
theorem xA (a:Tmp) (v:Value) (t:Array Value):(#[a].zip #[v]).foldl (fun t (p,v)=>t.setIfInBounds p v) t=t.setIfInBounds a v:=by simp
def ChgI (w:World) (b3:Nat) (x0 x1 x2:Value) (x:Rat) (zs:List CQ) (i:Nat) (W:World):Prop :=
 ∃ n last:Int,uV x ((cF zs).take i)=(n,last)/\W.heap[b3]?=some (.cells #[x0,x1,x2] 89 (0,0))/\W.heap[b3+1]?=some (.cells #[.int .i64 n] 3 (0,0))/\W.heap[b3+1+1]?=some (.cells #[.int .i64 last] 3 (0,0))/\Below w.heap.size w W/\0<=n/\n<=i/\-1<=last/\last<=1
attribute [local go_sem] Oper.semAt_some
theorem uT (vp vx:Value) (zs:List CQ) (x:Rat) (w:World) (hp:IsP w vp zs) (hx:IsR w vx (rt x)) (hsx:Sz 2000 (rt x)) (h2:fO zs) (hs:SzL 300 zs) :
  Calls Tryz.prog 181 #[vp,vx] w fun e w'=>e=.returned (.int .i64 (dU zs x))/\Below w.heap.size w w':=by
 obtain⟨xm,xp,xl,xc,xq,xk,xd,rfl⟩:=hx.form;obtain⟨p,c,rfl,-⟩:=id hp.form;have hx0:=hx;refine (callsIn_wide (n:=9)).1 ?_;refine callsIn_of_wp_marks Tryz.func181 rfl trivial ?_ rfl;simp only[Tryz.ntmps181,KY,IT,Jn,Nat.reduceAdd,Nat.reduceSub,Ky,Kz,KX,KI,I8,Jf]
 gi_wp2_with fail
 have m1:=aj w (.cells #[.bool xm,.slice xp xl xc,.slice xq xk xd] 89);have z1:=size_alloc w (.cells #[.bool xm,.slice xp xl xc,.slice xq xk xd] 89);have r1:=heap_alloc_new w (.cells #[.bool xm,.slice xp xl xc,.slice xq xk xd] 89 (0,0));generalize w.alloc (.cells #[.bool xm,.slice xp xl xc,.slice xq xk xd] 89)=w1 at *
 have m2:=aj w1 (.cells #[.int .i64 0] 3);have z2:=size_alloc w1 (.cells #[.int .i64 0] 3);have r2:=heap_alloc_new w1 (.cells #[.int .i64 0] 3 (0,0));generalize w1.alloc (.cells #[.int .i64 0] 3)=w2 at *
 have m3:=aj w2 (.cells #[.int .i64 0] 3);have z3:=size_alloc w2 (.cells #[.int .i64 0] 3);have r3:=heap_alloc_new w2 (.cells #[.int .i64 0] 3 (0,0));generalize w2.alloc (.cells #[.int .i64 0] 3)=w3 at *
 have hM3:=(LK m1 m2).trans (m3.mono (by omega));have hz3:w3.heap.size=w.heap.size+3:=by omega
 obtain⟨b3,hb3⟩:∃ b,b=w.heap.size:=⟨_,rfl⟩;rw[z1] at r2;rw[z2,z1] at r3;rw[<-hb3] at r1 r2 r3 hz3 |-;have R1:=(m3.block b3 (by omega)).trans ((m2.block b3 (by omega)).trans r1);have R2:=(m3.block (b3+1) (by omega)).trans r2;have hp3:=hp.below hM3;have hx3:=hx.below hM3;clear m1 z1 r1 m2 z2 r2 m3 z3 hp hx;refine⟨trivial,(callsIn_wide.2 (GF _ zs w3 hp3)).mono ?_⟩;rintro e w4 ⟨rfl,hbc,hltc,hp4,hb4⟩;have R1:=(hb4.block b3 (by omega)).trans R1;have R2:=(hb4.block (b3+1) (by omega)).trans R2;have R3:=(hb4.block (b3+1+1) (by omega)).trans r3;have hx4:=hx3.below hb4;have hM4:=hM3.trans (hb4.mono (by omega));obtain⟨gc,hgc⟩:∃ g,g=w3.heap.size:=⟨_,rfl⟩;rw[<-hgc] at hbc hltc |-;have hgb:gc=b3+3:=by omega
 have HB3:=Ip hb3;have HX4:=Ip hx4;have HX:=Ip hx0;have hgb1:gc≠b3:=by omega
 have hgb2:gc≠b3+1:=by omega
 have hgb3:gc≠b3+1+1:=by omega
 have hb3w:w.heap.size<=b3:=by omega
 have hgw:w.heap.size<=gc:=by omega
 clear hp3 hx3 hM3 hb4 r3 hgc hb3 hx0 hx4 hz3 hgb
 gi_wp2
 refine oE (gf:=237) (bnd:=#[]) (lb:=#[.pointer (some ⟨gc,0,none⟩)]) (E:=Ce zs) (len:=(cF zs).length) (Sb:=fun k=>k=b3+1\/k=b3+1+1) (Si:=fun k=>k=gc) (Ok:=uO (fun k=>k=b3+1\/k=b3+1+1) AB) rfl (by omega) rfl trivial ?eg ?hSb ?hSi (uS 8 (by omega) gc _ zs w4 _ hbc hp4 h2 hs (by omega)) ?hps
  (ChgI w b3 (.bool xm) (.slice xp xl xc) (.slice xq xk xd) x zs) ?hI ?hOk ?h0
  (fun i a W=>∃ v l,a={ tmps:=#[.slice p zs.length c,.agg #[.bool xm,.slice xp xl xc,.slice xq xk xd],undef,.pointer (some ⟨b3,0,none⟩),.int .i64 0,.pointer (some ⟨b3+1,0,none⟩),.pointer (some ⟨b3+1+1,0,none⟩),v,undef,.slice p zs.length c,.func (.func 237) #[] #[.pointer (some ⟨gc,0,none⟩)],v,undef,undef,undef,undef,undef,undef,undef,undef,undef,undef,undef,undef,undef,undef,undef,undef,undef],defers:=[] }/\(cF zs)[i]?=some l/\IsP W v l/\ChgI w b3 (.bool xm) (.slice xp xl xc) (.slice xq xk xd) x zs i W) ?hI1 ?hassign ?hbody ?hdone
 case eg=>exact cA Tryz.func237 rfl (by kernel_rfl)
 case hSb=>rintro k (rfl | rfl)<;>exact (ID.1 (by assumption)).1
 case hSi=>rintro k rfl;exact hltc
 case hps=>rintro i W vs ⟨v,l,rfl,-,-⟩;rfl
 case hI =>
  rintro i W W' ⟨n,last,h1,h2,h3,h4,h5,h6⟩ hB;exact⟨n,last,h1,hB.cells h2 (by omega),hB.cells h3 (by omega),hB.cells h4 (by omega),hB.below h5 hM4.size h5.size (fun k e=>by omega),h6⟩
 case hOk =>
  rintro i W ⟨n,last,-,-,h3,h4,-⟩ k hk j u hc;rcases hk with rfl | rfl
  ·exact pA h3 nofun _ rfl j u hc
  ·exact pA h4 nofun _ rfl j u hc
 case h0=>exact⟨0,0,rfl,R1,R2,R3,hM4,by omega,by omega,by omega,by omega⟩
 case hI1 =>
  rintro i a W W' ⟨v,l,e,hl,hv,n,last,h1,h2,h3,h4,h5,h6⟩ hB;exact⟨v,l,e,hl,hv.keep (jY.of_bes hB (fun k hk=>hk.elim)),n,last,h1,hB.cells h2 id,hB.cells h3 id,hB.cells h4 id,hB.below h5 hM4.size h5.size (fun k e=>e.elim),h6⟩
 case hassign =>
  rintro l i hi W vs hI ⟨v,lc,rfl,hl,hv⟩;rw[xA];simp only[Iq,Iu,Iv]
  gi_wp2
  exact⟨cR.refl _ _,v,lc,rfl,hl,hv,hI⟩
 case hbody =>
  rintro l i hi a₁ W ⟨v,lc,rfl,hl,hv,n,last,h1,h2',h3,h4,h5,h6⟩;obtain⟨hs3,hl7,hsa⟩:=CD h2 hs (x:=CQ.real x) ⟨hsx,.zero (by decide)⟩ hl
  have HN:=Ip (show uV x ((cF zs).take (i+1))=jV (lD x lc) (n,last) by
   rw[AM x hi,h1];rw[II hi] at hl
   rw[Option.some.inj hl])
  obtain⟨hn0,hn1,hl0,hl1⟩:=h6;have hir:i<2:=by have:=hi;cases h2<;>simp[cF] at this<;>omega
  have c0:W.cell? ⟨b3,0,none⟩=some (.bool xm):=by rw[World.cell?,h2'];rfl
  have c1:W.cell? ⟨b3,1,none⟩=some (.slice xp xl xc):=by rw[World.cell?,h2'];rfl
  have c2:W.cell? ⟨b3,2,none⟩=some (.slice xq xk xd):=by rw[World.cell?,h2'];rfl
  have HI:=Ip (And.intro h2' (And.intro h3 (And.intro h4 h5)));have HXW:=Ip (HX.out.below h5);have HV:=Ip hv;have HHS:=Ip hs3;clear h1 h2' h3 h4 h5 hl hi hv hs3 hbc HX4 R1 R2 R3 hM4 hp4
  gi_wp2_with fail
  refine⟨trivial,(CallsIn.inRound l (callsIn_wide.2 (fI _ _ W HXW.out))).mono ?_⟩;rintro e W1 ⟨v1,rfl,hv1,hb1⟩;rw[dX] at hv1
  gi_wp2_with fail
  refine⟨trivial,(CallsIn.inRound l (callsIn_wide.2 (atN v v1 lc (CQ.real x) W1 (HV.out.below hb1) hv1 (fun z hz=>(HHS.out z hz).mono (by decide)) ⟨hsx,.zero (by decide)⟩ hl7))).mono ?_⟩;rintro e W2 ⟨v2,rfl,hv2,hb2⟩;have hB2:=LK hb1 hb2;obtain⟨x1,x2,x3,y1,y2,y3,rfl,hx2,hy2⟩:=hv2;obtain⟨sm,sp,sl,sc,sq,sk,sd,hxe⟩:=hx2.form;obtain⟨tm,tp,tl,tc,tq,tk,td,hye⟩:=hy2.form;obtain⟨rfl,rfl,rfl⟩:=fh hxe;obtain⟨rfl,rfl,rfl⟩:=fh hye;have hfd:=fun wy:World=>(show (Instr.field 93 (.agg #[.bool sm,.slice sp sl sc,.slice sq sk sd,.bool tm,.slice tp tl tc,.slice tq tk td]) 0).run Tryz.prog wy=.ok (.agg #[.bool sm,.slice sp sl sc,.slice sq sk sd]) wy from by kernel_rfl);clear hxe hye hy2 hb1 hb2 hv1 c0 c1 c2
  gi_wp2_with fail
  refine⟨trivial,(CallsIn.inRound l (callsIn_wide.2 (kJ 0 W2 (by decide) (by decide)))).mono ?_⟩;rintro e W3 ⟨v3,rfl,hv3,hb3'⟩;clear hfd;have hz0:Sz 1 (rt (((0:Int)):Rat)):=.zero (by decide);have hcmp:=pF _ _ _ _ W3 (hx2.below hb3') hv3 (dQ _) (dQ _) (hsa.x.fewR hz0 (by decide)).f1 (hsa.x.fewR hz0 (by decide)).f2 (hsa.x.fewR hz0 (by decide)).f3 (hsa.x.fewR hz0 (by decide)).f4;rw[show (ct (atL lc (CQ.real x))).x=rt (atL lc (CQ.real x)).re from rfl,tH] at hcmp;obtain⟨sg,hsg⟩:∃ s,s=eL (atL lc (CQ.real x)).re (((0:Int)):Rat):=⟨_,rfl⟩;have hsr:-1<=sg/\sg<=1:=by rw[hsg];exact xL _ _
  rw[<-hsg] at hcmp;rw[show lD x lc=sg from hsg.symm] at HN;have HC:=Ip hcmp;have hB3:=LK hB2 hb3';clear hcmp hsg hz0 hv3 hx2 hb3' hB2
  gi_wp2_with fail
  refine⟨trivial,(CallsIn.inRound l (callsIn_wide.2 HC.out)).mono ?_⟩;rintro e W4 ⟨rfl,hb4⟩;have hB4:=LK hB3 hb4;obtain⟨h2',h3,h4,h5⟩:=HI.out;have h2':=(hB4.block _ (ID.1 h2').1).trans h2';have h3:=(hB4.block _ (ID.1 h3).1).trans h3;have h4:=(hB4.block _ (ID.1 h4).1).trans h4;have h5:=LK h5 hB4;have HT:=Ip (cR.of_below (S:=fun k=>k=b3+1\/k=b3+1+1) hB4);obtain⟨k5,f5⟩:=eo h3;obtain⟨k6,f6⟩:=eo h4;have HI:=Ip (And.intro h2' (And.intro h3 (And.intro h4 h5)));clear hB3 hb4 hB4 HC h2' h3 h4 h5;by_cases hs0:sg=0
  ·subst hs0
   gi_wp2
   obtain⟨q1,q2,q3,q4⟩:=HI.out;exact⟨HT.out,n,last,by rw[HN.out];simp[jV],q1,q2,q3,q4,hn0,by omega,hl0,hl1⟩
  ·have hw1:IntKind.i64.wrap (-last)=-last:=IntWalk.i64_in _ (by omega);have hw2:IntKind.i64.wrap (n+1)=n+1:=IntWalk.i64_in _ (by omega);have hd0:(sg == 0)=false:=by simpa using hs0
   by_cases hsl:sg=-last
   ·have hd:(sg == -last)=true:=by simpa using hsl
    have HN:=Ip (show uV x ((cF zs).take (i+1))=(n+1,sg) by rw[HN.out];simp only[jV];rw[if_neg hs0,if_pos hsl]);have HSR:=Ip hsr;have e1:b3+1≠b3:=by omega
    have e2:b3+1+1≠b3:=by omega
    have e3:b3+1+1≠b3+1:=by omega
    clear hsl hsr hs0
    gi_wp2
    obtain⟨q1,q2,q3,q4⟩:=HI.out;have g1:=(Below.heap_setCell W4 ⟨b3+1,0,none⟩ (.int .i64 (n+1)) b3 (by show b3≠b3+1;omega)).trans q1;have g2:=heap_setCell_same W4 (b3+1) 0 _ _ (.int .i64 (n+1)) q2;have g3:=(Below.heap_setCell W4 ⟨b3+1,0,none⟩ (.int .i64 (n+1)) (b3+1+1) (by show b3+1+1≠b3+1;omega)).trans q3;have g4:=q4.setCell (p:=⟨b3+1,0,none⟩) (by show w.heap.size<=b3+1;omega) (.int .i64 (n+1));have t1:=HT.out.trans (cR.set (S:=fun k=>k=b3+1\/k=b3+1+1) (w:=W4) (Or.inl rfl) 0 (.int .i64 (n+1)));generalize W4.setCell ⟨b3+1,0,none⟩ (.int .i64 (n+1))=W5 at *
    exact⟨t1.trans (cR.set (Or.inr rfl) 0 _),n+1,sg,HN.out,(Below.heap_setCell W5 ⟨b3+1+1,0,none⟩ _ b3 (by show b3≠b3+1+1;omega)).trans g1,(Below.heap_setCell W5 ⟨b3+1+1,0,none⟩ _ (b3+1) (by show b3+1≠b3+1+1;omega)).trans g2,heap_setCell_same W5 (b3+1+1) 0 _ _ _ g3,g4.setCell (p:=⟨b3+1+1,0,none⟩) (by show w.heap.size<=b3+1+1;omega) _,by omega,by omega,HSR.out.1,HSR.out.2⟩
   ·have hd:(sg == -last)=false:=by simpa using hsl
    have HN:=Ip (show uV x ((cF zs).take (i+1))=(n,sg) by rw[HN.out];simp only[jV];rw[if_neg hs0,if_neg hsl]);have HSR:=Ip hsr;clear hsl hsr hs0
    gi_wp2
    obtain⟨q1,q2,q3,q4⟩:=HI.out;exact⟨HT.out.trans (cR.set (Or.inr rfl) 0 _),n,sg,HN.out,(Below.heap_setCell W4 ⟨b3+1+1,0,none⟩ _ b3 (by show b3≠b3+1+1;omega)).trans q1,(Below.heap_setCell W4 ⟨b3+1+1,0,none⟩ _ (b3+1) (by show b3+1≠b3+1+1;omega)).trans q2,heap_setCell_same W4 (b3+1+1) 0 _ _ _ q3,q4.setCell (p:=⟨b3+1+1,0,none⟩) (by show w.heap.size<=b3+1+1;omega) _,hn0,by omega,HSR.out.1,HSR.out.2⟩
 case hdone =>
  rintro D W hD ⟨n,last,h1,h2',h3,h4,h5,h6⟩ hK;rw[IZ] at h1;have HN:=Ip (show dU zs x=n by unfold dU;rw[h1]);obtain⟨k5,f5⟩:=eo h3;have HM:=Ip h5;have HK:=Ip hK;clear h1 h2' h3 h4 h5 hK hbc HX4 R1 R2 R3 hp4
  gi_wp2
  have hne:w.heap.size<=D:=by have:=hM4.size;omega
  refine⟨by simp,.inl ⟨_,_,rfl,run_takeDeferred HK.out,?_⟩⟩;refine⟨.int .i64 n,by simp[results,Tryz.results181,go_sem],by rw[HN.out],HM.out.trans ⟨rfl,rfl,rfl,by simp,fun k hk=>World.putObj_heap_other (by omega)⟩⟩
end Go.Proofs.YtlhpcoelfhjomaaGreatDoor
