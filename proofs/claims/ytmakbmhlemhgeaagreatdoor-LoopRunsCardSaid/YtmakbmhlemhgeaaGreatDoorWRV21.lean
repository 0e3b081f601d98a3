/- L -/
import Derived.Test.YtmakbmhlemhgeaaGreatDoorWRV5
import Derived.Test.YtmakbmhlemhgeaaGreatDoorWB
set_option linter.all false
set_option maxRecDepth 100000
set_option maxHeartbeats 8000000
namespace Go.Proofs.YtmakbmhlemhgeaaGreatDoor
open Go.RowKit Dg
theorem xC (a x:List Rat) (t:Nat):∀ k,t<k->inQ a x t k=inQ a x t (t+1)
 | 0,h=>by omega
 | k+1,h=>by
  by_cases hk:t<k
  ·rw[inQ,if_neg (by omega),xC a x t k hk]
  ·rw[show k=t by omega]
theorem tW (b y:List Rat) (t:Nat) (n:Rat):∀ k,t<k->fA b y t n k=fA b y t n (t+1)
 | 0,h=>by omega
 | k+1,h=>by
  by_cases hk:t<k
  ·rw[fA,if_neg (by omega),tW b y t n k hk]
  ·rw[show k=t by omega]
structure Okay (qa qb xs:List Rat):Prop where
 i:∀ t,t<xs.length->∀ k,k<=qa.length->okQ (inQ qa xs t k)
 o:∀ t,t<xs.length->∀ k,k<=qb.length->okQ (fA qb (bD qa qb xs t) t (inQ qa xs t qa.length) k)
 y:∀ t,t<=xs.length->∀ s,s<t->okQ ((bD qa qb xs t).getD s 0)
 x:∀ q∈xs,okQ q
 a:∀ q∈qa,okQ q
 b:∀ q∈qb,okQ q
theorem qK (v vx:Value) (a b:List ByteArray) (qa qb xs:List Rat) (w:World) (hF:IsF w v a b) (pa:dH a qa) (pb:dH b qb) (hx:pH w vx xs) (hok:Okay qa qb xs) (hqb0:0<qb.length) (hlx:xs.length<1000000) :
  Calls Tryz.prog 43 #[v,vx] w fun e w'=>∃ v',e=.returned v'/\ej w' w.heap.size v' (bD qa qb xs xs.length)/\Below w.heap.size w w':=by
 obtain⟨p,c,q,d,rfl,hfa,hfb⟩:=id hF.ex;obtain⟨px,cx,rfl,-,-⟩:=id hx.form;go_enter Tryz.func43,Tryz.ntmps43;go_upto_region 1 with fail
 have l1:=bA w (.cells #[.slice p a.length c,.slice q b.length d] 34);have z1:=size_alloc w (.cells #[.slice p a.length c,.slice q b.length d] 34);have hBB:=l1.below;have s0:=l1.s0;generalize w.alloc (.cells #[.slice p a.length c,.slice q b.length d] 34)=w1 at *
 have HPA:=GF pa;have HPB:=GF pb;have LA:=GF (fun (wx:World) (h:Below (w.heap.size+1) w1 wx)=>hfa.below (hBB.trans (h.mono (H_ _ _))));have LB:=GF (fun (wx:World) (h:Below (w.heap.size+1) w1 wx)=>hfb.below (hBB.trans (h.mono (H_ _ _))));have LX:=GF (fun (wx:World) (h:Below (w.heap.size+1) w1 wx)=>hx.below (hBB.trans (h.mono (H_ _ _))));have hz:w.heap.size+1<=w1.drew.heap.size:=Ji z1.symm;have hBw:Below (w.heap.size+1) w1 w1.drew:=(Ki _ _).drew;have HOK:=GF hok;clear l1 z1 pa pb hfa hfb hF hx hok;refine aB (fun w'=>∃ z:aL (w.heap.size+1) w1,w'=z.w) (fun j=>j == 2||j == 5) (by kernel_rfl) (by kernel_rfl) ⟨⟨_,hBw⟩,rfl⟩ ?_;have k0:=aw (B:=w.heap.size+1) s0 (by omega) 0 rfl;have k1:=aw (B:=w.heap.size+1) s0 (by omega) 1 rfl;have HBB:=GF hBB;clear s0 hBB;generalize w1.drew=wn at *
 refine aq 2 0 _ _ _ (by kernel_rfl) ?_;simp only[GP,GS,GQ,GR];repeat (go_big_quiet_step (fail))
 refine wpQuiet_nil ?_;refine ar rfl rfl (fun K hK=>?_);go_simp;refine (rY _ qa wn (by rw[<-HPA.out.e];exact LA.out wn hBw) HPA.out.ok (by have:=HPA.out.len;omega)).mono ?_;rintro e wn ⟨v1,rfl,hv1,hb⟩;replace hv1:=hv1.isQs;obtain⟨pp1,cc1,rfl,-,-⟩:=hv1.form;replace hBw:=hBw.trans (hb.mono hz);replace hz:=GV hz hb.size;refine hK _ _ ⟨⟨_,hBw⟩,rfl⟩ ?_;clear hK K hb;try simp only[Act.put,GJ,GI,GH,GG,GL,GK]
 refine aq 2 3 _ _ _ (by kernel_rfl) ?_;simp only[GP,GS,GQ,GR];repeat (go_big_quiet_step (fail))
 refine wpQuiet_nil ?_;refine ar rfl rfl (fun K hK=>?_);go_simp;refine (rY _ qb wn (by rw[<-HPB.out.e];exact LB.out wn hBw) HPB.out.ok (by have:=HPB.out.len;omega)).mono ?_;rintro e wn ⟨v2,rfl,hv2,hb⟩;replace hv2:=hv2.isQs;obtain⟨pp2,cc2,rfl,-,-⟩:=hv2.form;replace hv1:=hv1.below hb;replace hBw:=hBw.trans (hb.mono hz);replace hz:=GV hz hb.size;refine hK _ _ ⟨⟨_,hBw⟩,rfl⟩ ?_;clear hK K hb;try simp only[Act.put,GJ,GI,GH,GG,GL,GK]
 refine aq 2 6 _ _ _ (by kernel_rfl) ?_;simp only[GP,GS,GQ,GR];repeat (go_big_quiet_step (fail))
 refine wpQuiet_nil ?_;refine aH ?_;clear k0 k1;have HIN:=GF hv1;have HBK:=GF hv2;have HXS:=GF (LX.out wn hBw);have HB2:=GF (HBB.out.trans (hBw.mono (H_ _ _)));clear LA LB LX hv1 hv2 hBw hz HBB;rename World=>w2;go_wp2;go_loopw [7,8] (fun s7 s8 wr=>∃ t:Nat,s8=.int .i64 t/\t<=xs.length/\ej wr w2.heap.size s7 (bD qa qb xs t)/\Below w2.heap.size w2 wr) (fun _ s8 _=>xs.length-(intOf s8).toNat)
 case atStart=>exact⟨0,rfl,GY _,ej.nil _ _,Ki _ _⟩
 case round =>
  obtain⟨t,rfl,htn,hown,hbr⟩:=hrel;by_cases ht:t<xs.length
  ·go_wp2_with fail
   refine (ET wr).mono ?_;rintro e w3 ⟨v3,rfl,hv3,hb3⟩;obtain⟨zm,za,zN,zd,zb,zM,ze,rfl⟩:=hv3.forms;go_upto_region 8 with fail
   have lx:=bA w3 (.cells #[.bool zm,.slice za zN zd,.bool false,.slice zb zM ze] 87);have hv4:=hv3.below lx.below;have hB3:=hbr.trans (hb3.mono hbr.size);have hB4:=hB3.trans (lx.below.mono hB3.size);obtain⟨py,cy,rfl,-,-⟩:=hown.isQs.form;have how:=fun (wx:World) (h:Below w3.heap.size (w3.alloc (.cells #[.bool zm,.slice za zN zd,.bool false,.slice zb zM ze] 87)) wx)=>(hown.below hb3).below (lx.below.trans h);have hsn:=lx.s0;have hgn:w2.heap.size<=w3.heap.size:=hB3.size;have hgs:(w3.alloc (.cells #[.bool zm,.slice za zN zd,.bool false,.slice zb zM ze] 87)).heap.size=w3.heap.size+1:=lx.size;clear lx hv3 hb3 hown hbr hB3;generalize World.alloc w3 (.cells #[.bool zm,.slice za zN zd,.bool false,.slice zb zM ze] 87)=wm at *
   generalize (World.heap w3).size=gn at *
   have HYR:=GF how;have HB4:=GF hB4;have HGN:=GF (And.intro hgn hgs);clear how hB4 hgn hgs;obtain⟨m1,hm1⟩:∃ m,m=min qa.length (t+1):=⟨_,rfl⟩;obtain⟨m2,hm2⟩:∃ m,m=min qb.length (t+1):=⟨_,rfl⟩;have HQB0:=GF hqb0;have HM1:=GF hm1;have HM2:=GF hm2
   have HE1:=GF (show inQ qa xs t m1=inQ qa xs t qa.length from by
    by_cases h:qa.length<=t+1
    ·rw[hm1,Hw h]
    ·rw[hm1,Nat.min_eq_right (by omega),xC qa xs t qa.length (by omega)])
   obtain⟨Y,hY⟩:∃ Y,Y=bD qa qb xs t:=⟨_,rfl⟩;have HYL:=GF (show Y.length=t by rw[hY,fc]);obtain⟨n0,hn0⟩:∃ n0,n0=inQ qa xs t qa.length:=⟨_,rfl⟩
   have HE2:=GF (show fA qb Y t n0 m2=fA qb Y t n0 qb.length from by
    by_cases h:qb.length<=t+1
    ·rw[hm2,Hw h]
    ·rw[hm2,Nat.min_eq_right (by omega),tW qb Y t n0 qb.length (by omega)])
   have HTK:=GF (show bD qa qb xs (t+1)=Y++[fA qb Y t n0 qb.length] from by rw[bD,<-hY,<-hn0]);have HOI:=GF (HOK.out.i t ht);have HOO:=GF (show ∀ k,k<=qb.length->okQ (fA qb Y t n0 k) from by rw[hY,hn0];exact HOK.out.o t ht);have HOYY:=GF (show ∀ s,s<t->okQ (Y.getD s 0) from by rw[hY];exact HOK.out.y t htn);rw[<-hY] at HYR |-;rw[<-hn0] at HE1;have hma:m1<=qa.length:=by omega
   have hma2:m1<=t+1:=by omega
   have hmb:m2<=qb.length:=by omega
   have hmb2:m2<=t+1:=by omega
   clear hm1 hm2 hY hn0;go_wp2;go_loopw [10] (fun s10 wi=>∃ k:Nat,s10=.int .i64 k/\k<=m1/\Below gn wm wi/\∃ m a N d a' N' d',wi.heap[gn]?=some (.cells #[.bool m,.slice a N d,.bool false,.slice a' N' d'] 87 (0,0))/\cW wi (.agg #[.bool m,.slice a N d,.bool false,.slice a' N' d']) (inQ qa xs t k)) (fun s10 _=>m1-(intOf s10).toNat)
   case atStart=>exact⟨0,rfl,GY _,Ki _ _,_,_,_,_,_,_,_,hsn,hv4⟩
   case round =>
    clear hsn hv4;obtain⟨k,rfl,hkm,hbi,m,na,N,d',nb,N',e',hsn,hvn⟩:=hrel;go_upto_region 8 with fail
    go_cut [33] from 25 to 33 (fun s33 wx=>s33=.bool (decide (k<m1))/\wx=wr)
    case first =>
     clear hsn hvn;by_cases hka:k<qa.length
     ·by_cases hkt:k<=t
      ·have hd:decide (k<m1)=true:=decide_eq_true (by rw[HM1.out];omega);go_wp2;go_meet;exact⟨by rw[hd],rfl⟩
      ·have hd:decide (k<m1)=false:=decide_eq_false (by rw[HM1.out];omega);have hkt2:decide (k<=t)=false:=decide_eq_false hkt;go_wp2;go_meet;exact⟨by rw[hd],rfl⟩
     ·have hd:decide (k<m1)=false:=decide_eq_false (by rw[HM1.out];omega);go_wp2;go_meet;exact⟨by rw[hd],rfl⟩
    case rest =>
     obtain⟨rfl,hww⟩:=hcut;subst hww;rename World=>wr;by_cases hk:k<m1
     ·have hka:k<qa.length:=by omega
      have hkt:k<=t:=by omega
      have hyk:t-k<xs.length:=by omega
      rw[decide_eq_true hk];have hbw:=HB4.out.trans (hbi.mono HGN.out.1);obtain⟨ba,oa,rfl,hla,am,aa,aN,ad,ab,aM,ae,hqa,a0,a1,a2,a3⟩:=(HIN.out.below hbw).get hka;obtain⟨bx,ox,rfl,hlb,bm,ba',bN,bd,bb',bM,be,hqb,b0,b1,b2,b3⟩:=(HXS.out.below hbw).get (i:=t-k) hyk;rw[show (qa)[k]=qa.getD k 0 by simp[Hb,G4 hka]] at hqa;rw[show (xs)[t-k]'hyk=xs.getD (t-k) 0 by simp[Hb,G4 hyk]] at hqb;have HSA:=GF (me (HOK.out.a (qa.getD k 0) (iL hka)));have HSB:=GF (me (HOK.out.x (xs.getD (t-k) 0) (iL hyk)));have HSN:=GF (me (HOI.out k (by omega)));have HNX:=GF (show inQ qa xs t (k+1)=inQ qa xs t k+qa.getD k 0*xs.getD (t-k) 0 by rw[inQ,if_pos hkt]);obtain⟨x,hxe⟩:∃ x,x=qa.getD k 0:=⟨_,rfl⟩;obtain⟨y,hye⟩:∃ y,y=xs.getD (t-k) 0:=⟨_,rfl⟩;obtain⟨n,hne⟩:∃ n,n=inQ qa xs t k:=⟨_,rfl⟩;rw[<-hxe] at hqa HSA HNX;rw[<-hye] at hqb HSB HNX;rw[<-hne] at hvn HSN HNX;clear hxe hye hne;have hin2:=IntWalk.i64_in ((t:Int)-(k:Int)) (by omega);have hix:0<=(t:Int)-(k:Int):=by omega
      have hix2:(t:Int)-(k:Int)<(xs.length:Int):=by omega
      have hta:(((t:Int)-(k:Int))).toNat=t-k:=by omega
      go_upto_region 10 with fail
      have hBd:Below wr.heap.size wr wr.drew:=(Ki _ _).drew;refine aD (fun wx:World=>Below wr.drew.heap.size wr.drew wx) (fun j=>j == 13) (by kernel_rfl) ?_;have hbd:=hbi.trans (hBd.mono (Ha (ak hsn)));have HCA:=GF (And.intro (GN hla hBd.size) (And.intro (aj hBd hla a0) (And.intro (aj hBd hla a1) (And.intro (aj hBd hla a2) (aj hBd hla a3)))));have HCB:=GF (And.intro (GN hlb hBd.size) (And.intro (aj hBd hlb b0) (And.intro (aj hBd hlb b1) (And.intro (aj hBd hlb b2) (aj hBd hlb b3)))));have HQA:=GF (hqa.below hBd);have HQB:=GF (hqb.below hBd);have HQN:=GF (hvn.below hBd);have HSD:=GF ((hBd.block _ (ak hsn)).trans hsn);have HBD:=GF hbd;clear a0 a1 a2 a3 b0 b1 b2 b3 hla hlb hqa hqb hvn hsn hbi hBd hbd hbw;generalize wr.drew=wd at *
      have hS:Below wd.heap.size wd wd:=Ki _ _;refine aE (i:=0) (v:=?vv0a) rfl (by kernel_rfl) (fun _ _ _ h=>h) rfl hS ?hy0a ?rest0a
      case hy0a =>
       intro wy hy;have t0:=ai ((hy.block _ (ak HSD.out)).trans HSD.out) 0;have t1:=ai ((hy.block _ (ak HSD.out)).trans HSD.out) 1;have t2:=ai ((hy.block _ (ak HSD.out)).trans HSD.out) 2;have t3:=ai ((hy.block _ (ak HSD.out)).trans HSD.out) 3;clear hy;go_simp;try with_reducible rfl
      try simp only[Act.put,GJ,GI,GH,GG,GL,GK]
      refine Kf 1 (r:=?_)
      try simp only[Act.put,GJ,GI,GH,GG,GL,GK]
      refine Kf 2 (r:=?_)
      try simp only[Act.put,GJ,GI,GH,GG,GL,GK]
      refine Kf 3 (r:=?_)
      try simp only[Act.put,GJ,GI,GH,GG,GL,GK]
      refine aE (i:=4) (v:=?vv4a) rfl (by kernel_rfl) (fun _ _ _ h=>h) rfl hS ?hy4a ?rest4a
      case hy4a =>
       intro wy hy;have t0:=aj hy HCA.out.1 HCA.out.2.1;have t1:=aj hy HCA.out.1 HCA.out.2.2.1;have t2:=aj hy HCA.out.1 HCA.out.2.2.2.1;have t3:=aj hy HCA.out.1 HCA.out.2.2.2.2;clear hy;go_simp;try with_reducible rfl
      try simp only[Act.put,GJ,GI,GH,GG,GL,GK]
      refine Kf 5 (r:=?_)
      try simp only[Act.put,GJ,GI,GH,GG,GL,GK]
      refine Kf 6 (r:=?_)
      try simp only[Act.put,GJ,GI,GH,GG,GL,GK]
      refine Kf 7 (r:=?_)
      try simp only[Act.put,GJ,GI,GH,GG,GL,GK]
      refine Kf 8 (r:=?_)
      try simp only[Act.put,GJ,GI,GH,GG,GL,GK]
      refine Kf 9 (r:=?_)
      try simp only[Act.put,GJ,GI,GH,GG,GL,GK]
      refine aE (i:=10) (v:=?vv10a) rfl (by kernel_rfl) (fun _ _ _ h=>h) rfl hS ?hy10a ?rest10a
      case hy10a =>
       intro wy hy;have t0:=aj hy HCB.out.1 HCB.out.2.1;have t1:=aj hy HCB.out.1 HCB.out.2.2.1;have t2:=aj hy HCB.out.1 HCB.out.2.2.2.1;have t3:=aj hy HCB.out.1 HCB.out.2.2.2.2;clear hy;go_simp;try with_reducible rfl
      try simp only[Act.put,GJ,GI,GH,GG,GL,GK]
      refine aA (i:=11) rfl (by kernel_rfl) rfl (fun K hK=>?_);go_simp;refine (eG _ _ x y 2000 2000 wd HQA.out HQB.out HSA.out HSB.out (by decide)).mono ?_;rintro e w5 ⟨v5,rfl,hv5,hb5⟩;obtain⟨pm,paa,pN,pd,pbb,pM,pe,rfl⟩:=hv5.forms;refine hK _ _ (fun _ _=>hb5) ?_;clear hK K;try simp only[Act.put,GJ,GI,GH,GG,GL,GK]
      refine aA (i:=12) rfl (by kernel_rfl) rfl (fun K hK=>?_);go_simp;refine (g_ _ _ n (x*y) 2000 (2000+2000) w5 (HQN.out.below hb5) hv5 HSN.out (ix HSA.out HSB.out) (by decide)).mono ?_;rintro e w6 ⟨v6,rfl,hv6,hb6⟩;obtain⟨sm,sa,sN,sd,sb,sM,se,rfl⟩:=hv6.forms;have hB6:=hb5.trans (hb6.mono hb5.size);refine hK _ _ (fun _ _=>hB6) ?_;clear hK K;try simp only[Act.put,GJ,GI,GH,GG,GL,GK]
      have hr6:=(hB6.block _ (ak HSD.out)).trans HSD.out;have q0:=ai hr6 0;have q1:=ai hr6 1;have q2:=ai hr6 2;have q3:=ai hr6 3;have f0:=Kg w6 gn 0 _ _ hr6;have f1:=Kg w6 gn 1 _ _ hr6;have f2:=Kg w6 gn 2 _ _ hr6;have f3:=Kg w6 gn 3 _ _ hr6;have hP:=bj (u0:=.bool sm) (u1:=.slice sa sN sd) (u2:=.bool false) (u3:=.slice sb sM se) hr6;have HZ:=GF (bV.puts hv6 hP hr6 bU);have HRW:=GF hP.row;have HBP:=GF ((HBD.out.trans (hB6.mono (GV HBD.out.size (GM _) |> fun _=>Ha (ak HSD.out)))).trans (hP.below gn (GM _)));clear hr6 hP hB6 hb6 hb5 hS hv5 hv6 HQA HQB HQN HCA HCB HSD HBD;refine aA (i:=13) rfl (by kernel_rfl) rfl (fun K hK=>?_);go_simp;change K _ (d7 w6 gn (.bool sm) (.slice sa sN sd) (.bool false) (.slice sb sM se));refine hK _ _ (fun h=>by cases h) ?_;clear hK K q0 q1 q2 q3 f0 f1 f2 f3;try simp only[Act.put,GJ,GI,GH,GG,GL,GK]
      refine aK (by kernel_rfl) ?_ _;go_wp2;go_roundw;case rel=>exact⟨k+1,by go_num,by omega,HBP.out,_,_,_,_,_,_,_,HRW.out,by rw[HNX.out];exact HZ.out⟩
      case measure=>simp[intOf]<;>omega
     ·obtain rfl:k=m1:=by omega
      rw[decide_eq_false hk];rw[HE1.out] at hvn;clear hkm hk;have hm20:1<=m2:=by have:=HM2.out;have:=HQB0.out;omega
      go_wp2;go_loopw [11] (fun s11 wi=>∃ k:Nat,s11=.int .i64 k/\1<=k/\k<=m2/\Below gn wm wi/\∃ m a N d a' N' d',wi.heap[gn]?=some (.cells #[.bool m,.slice a N d,.bool false,.slice a' N' d'] 87 (0,0))/\cW wi (.agg #[.bool m,.slice a N d,.bool false,.slice a' N' d']) (fA qb Y t n0 k)) (fun s11 _=>m2-(intOf s11).toNat)
      case atStart=>exact⟨1,rfl,GM _,hm20,hbi,_,_,_,_,_,_,_,hsn,by rw[fA,if_neg (by omega),fA];exact hvn⟩
      case round =>
       clear hsn hvn hbi;obtain⟨k,rfl,hk0,hkm,hbi,m,na,N,d',nb,N',e',hsn,hvn⟩:=hrel;go_upto_region 12 with fail
       go_cut [57] from 49 to 57 (fun s57 wx=>s57=.bool (decide (k<m2))/\wx=wr)
       case first =>
        clear hsn hvn;by_cases hka:k<qb.length
        ·by_cases hkt:k<=t
         ·have hd:decide (k<m2)=true:=decide_eq_true (by rw[HM2.out];omega);go_wp2;go_meet;exact⟨by rw[hd],rfl⟩
         ·have hd:decide (k<m2)=false:=decide_eq_false (by rw[HM2.out];omega);have hkt2:decide (k<=t)=false:=decide_eq_false hkt;go_wp2;go_meet;exact⟨by rw[hd],rfl⟩
        ·have hd:decide (k<m2)=false:=decide_eq_false (by rw[HM2.out];omega);go_wp2;go_meet;exact⟨by rw[hd],rfl⟩
       case rest =>
        obtain⟨rfl,hww⟩:=hcut;subst hww;rename World=>wr;by_cases hk:k<m2
        ·have hka:k<qb.length:=by omega
         have hkt:k<=t:=by omega
         have hyk:t-k<Y.length:=by have:=HYL.out;omega
         rw[decide_eq_true hk];have hbw:=HB4.out.trans (hbi.mono HGN.out.1);obtain⟨ba,oa,rfl,hla,am,aa,aN,ad,ab,aM,ae,hqa,a0,a1,a2,a3⟩:=(HBK.out.below hbw).get hka;obtain⟨bx,ox,rfl,hlb,bm,ba',bN,bd,bb',bM,be,hqb,b0,b1,b2,b3⟩:=((HYR.out wr hbi).isQs).get (i:=t-k) hyk;rw[show (qb)[k]=qb.getD k 0 by simp[Hb,G4 hka]] at hqa;rw[show (Y)[t-k]'hyk=Y.getD (t-k) 0 by simp[Hb,G4 hyk]] at hqb;have HSA:=GF (me (HOK.out.b (qb.getD k 0) (iL hka)));have HSB:=GF (me (HOYY.out (t-k) (by omega)));have HSN:=GF (me (HOO.out k (by omega)));have HNX:=GF (show fA qb Y t n0 (k+1)=fA qb Y t n0 k-qb.getD k 0*Y.getD (t-k) 0 by rw[fA,if_pos ⟨hk0,hkt⟩]);obtain⟨x,hxe⟩:∃ x,x=qb.getD k 0:=⟨_,rfl⟩;obtain⟨y,hye⟩:∃ y,y=Y.getD (t-k) 0:=⟨_,rfl⟩;obtain⟨n,hne⟩:∃ n,n=fA qb Y t n0 k:=⟨_,rfl⟩;rw[<-hxe] at hqa HSA HNX;rw[<-hye] at hqb HSB HNX;rw[<-hne] at hvn HSN HNX;clear hxe hye hne;have hin2:=IntWalk.i64_in ((t:Int)-(k:Int)) (by omega);have hix:0<=(t:Int)-(k:Int):=by omega
         have hix2:(t:Int)-(k:Int)<(Y.length:Int):=by omega
         have hta:(((t:Int)-(k:Int))).toNat=t-k:=by omega
         go_upto_region 14 with fail
         have hBd:Below wr.heap.size wr wr.drew:=(Ki _ _).drew;refine aD (fun wx:World=>Below wr.drew.heap.size wr.drew wx) (fun j=>j == 13) (by kernel_rfl) ?_;have hbd:=hbi.trans (hBd.mono (Ha (ak hsn)));have HCA:=GF (And.intro (GN hla hBd.size) (And.intro (aj hBd hla a0) (And.intro (aj hBd hla a1) (And.intro (aj hBd hla a2) (aj hBd hla a3)))));have HCB:=GF (And.intro (GN hlb hBd.size) (And.intro (aj hBd hlb b0) (And.intro (aj hBd hlb b1) (And.intro (aj hBd hlb b2) (aj hBd hlb b3)))));have HQA:=GF (hqa.below hBd);have HQB:=GF (hqb.below hBd);have HQN:=GF (hvn.below hBd);have HSD:=GF ((hBd.block _ (ak hsn)).trans hsn);have HBD:=GF hbd;clear a0 a1 a2 a3 b0 b1 b2 b3 hla hlb hqa hqb hvn hsn hbi hBd hbd hbw;generalize wr.drew=wd at *
         have hS:Below wd.heap.size wd wd:=Ki _ _;refine aE (i:=0) (v:=?vv0b) rfl (by kernel_rfl) (fun _ _ _ h=>h) rfl hS ?hy0b ?rest0b
         case hy0b =>
          intro wy hy;have t0:=ai ((hy.block _ (ak HSD.out)).trans HSD.out) 0;have t1:=ai ((hy.block _ (ak HSD.out)).trans HSD.out) 1;have t2:=ai ((hy.block _ (ak HSD.out)).trans HSD.out) 2;have t3:=ai ((hy.block _ (ak HSD.out)).trans HSD.out) 3;clear hy;go_simp;try with_reducible rfl
         try simp only[Act.put,GJ,GI,GH,GG,GL,GK]
         refine Kf 1 (r:=?_)
         try simp only[Act.put,GJ,GI,GH,GG,GL,GK]
         refine Kf 2 (r:=?_)
         try simp only[Act.put,GJ,GI,GH,GG,GL,GK]
         refine Kf 3 (r:=?_)
         try simp only[Act.put,GJ,GI,GH,GG,GL,GK]
         refine aE (i:=4) (v:=?vv4b) rfl (by kernel_rfl) (fun _ _ _ h=>h) rfl hS ?hy4b ?rest4b
         case hy4b =>
          intro wy hy;have t0:=aj hy HCA.out.1 HCA.out.2.1;have t1:=aj hy HCA.out.1 HCA.out.2.2.1;have t2:=aj hy HCA.out.1 HCA.out.2.2.2.1;have t3:=aj hy HCA.out.1 HCA.out.2.2.2.2;clear hy;go_simp;try with_reducible rfl
         try simp only[Act.put,GJ,GI,GH,GG,GL,GK]
         refine Kf 5 (r:=?_)
         try simp only[Act.put,GJ,GI,GH,GG,GL,GK]
         refine Kf 6 (r:=?_)
         try simp only[Act.put,GJ,GI,GH,GG,GL,GK]
         refine Kf 7 (r:=?_)
         try simp only[Act.put,GJ,GI,GH,GG,GL,GK]
         refine Kf 8 (r:=?_)
         try simp only[Act.put,GJ,GI,GH,GG,GL,GK]
         refine Kf 9 (r:=?_)
         try simp only[Act.put,GJ,GI,GH,GG,GL,GK]
         refine aE (i:=10) (v:=?vv10b) rfl (by kernel_rfl) (fun _ _ _ h=>h) rfl hS ?hy10b ?rest10b
         case hy10b =>
          intro wy hy;have t0:=aj hy HCB.out.1 HCB.out.2.1;have t1:=aj hy HCB.out.1 HCB.out.2.2.1;have t2:=aj hy HCB.out.1 HCB.out.2.2.2.1;have t3:=aj hy HCB.out.1 HCB.out.2.2.2.2;clear hy;go_simp;try with_reducible rfl
         try simp only[Act.put,GJ,GI,GH,GG,GL,GK]
         refine aA (i:=11) rfl (by kernel_rfl) rfl (fun K hK=>?_);go_simp;refine (eG _ _ x y 2000 2000 wd HQA.out HQB.out HSA.out HSB.out (by decide)).mono ?_;rintro e w5 ⟨v5,rfl,hv5,hb5⟩;obtain⟨pm,paa,pN,pd,pbb,pM,pe,rfl⟩:=hv5.forms;refine hK _ _ (fun _ _=>hb5) ?_;clear hK K;try simp only[Act.put,GJ,GI,GH,GG,GL,GK]
         refine aA (i:=12) rfl (by kernel_rfl) rfl (fun K hK=>?_);go_simp;refine (FN _ _ n (x*y) 2000 (2000+2000) w5 (HQN.out.below hb5) hv5 HSN.out (ix HSA.out HSB.out) (by decide)).mono ?_;rintro e w6 ⟨v6,rfl,hv6,hb6⟩;obtain⟨sm,sa,sN,sd,sb,sM,se,rfl⟩:=hv6.forms;have hB6:=hb5.trans (hb6.mono hb5.size);refine hK _ _ (fun _ _=>hB6) ?_;clear hK K;try simp only[Act.put,GJ,GI,GH,GG,GL,GK]
         have hr6:=(hB6.block _ (ak HSD.out)).trans HSD.out;have q0:=ai hr6 0;have q1:=ai hr6 1;have q2:=ai hr6 2;have q3:=ai hr6 3;have f0:=Kg w6 gn 0 _ _ hr6;have f1:=Kg w6 gn 1 _ _ hr6;have f2:=Kg w6 gn 2 _ _ hr6;have f3:=Kg w6 gn 3 _ _ hr6;have hP:=bj (u0:=.bool sm) (u1:=.slice sa sN sd) (u2:=.bool false) (u3:=.slice sb sM se) hr6;have HZ:=GF (bV.puts hv6 hP hr6 bU);have HRW:=GF hP.row;have HBP:=GF ((HBD.out.trans (hB6.mono (GV HBD.out.size (GM _) |> fun _=>Ha (ak HSD.out)))).trans (hP.below gn (GM _)));clear hr6 hP hB6 hb6 hb5 hS hv5 hv6 HQA HQB HQN HCA HCB HSD HBD;refine aA (i:=13) rfl (by kernel_rfl) rfl (fun K hK=>?_);go_simp;change K _ (d7 w6 gn (.bool sm) (.slice sa sN sd) (.bool false) (.slice sb sM se));refine hK _ _ (fun h=>by cases h) ?_;clear hK K q0 q1 q2 q3 f0 f1 f2 f3;try simp only[Act.put,GJ,GI,GH,GG,GL,GK]
         refine aK (by kernel_rfl) ?_ _;go_wp2;go_roundw;case rel=>exact⟨k+1,by go_num,by omega,by omega,HBP.out,_,_,_,_,_,_,_,HRW.out,by rw[HNX.out];exact HZ.out⟩
         case measure=>simp[intOf]<;>omega
        ·obtain rfl:k=m2:=by omega
         rw[decide_eq_false hk];rw[HE2.out] at hvn;clear hkm hk hk0;have q0:=ai hsn 0;have q1:=ai hsn 1;have q2:=ai hsn 2;have q3:=ai hsn 3;have hl3:=bA wr (.cells #[.bool m,.slice na N d',.bool false,.slice nb N' e'] 87);have hcx:=heap_alloc_new wr (.cells #[.bool m,.slice na N d',.bool false,.slice nb N' e'] 87);have hv5:=hvn.below hl3.below;have ho5:=(HYR.out wr hbi).below hl3.below;have hB45:=HB4.out.trans (hbi.mono HGN.out.1);have hB5:=hB45.trans (hl3.below.mono hB45.size);have hbs:=hB5.size;have hzl:Y.length<1000000000:=by have:=HYL.out;omega
         clear hvn hbi hsn hl3 hB45 HYR HB4;go_wp2_with (at_builtin;refine eS 80 Tryz.underlying80 rfl (.tmp 73) (.tmp 75) rfl w2.heap.size _ _ m na N d' nb N' e' _ rfl ho5 _ rfl hcx hv5 hzl hbs ?_)
         intro v' w6 hap;have hB6:=hap.below ho5 hB5 (GM _) hbs;have hw6:=hap.own;rw[<-HTK.out] at hw6;clear hap ho5 hv5 hcx hB5 hbs hzl q0 q1 q2 q3;go_wp2;go_roundw;case rel=>exact⟨t+1,by go_num,by omega,hw6,hB6⟩
         case measure=>simp[intOf]<;>omega
  ·obtain rfl:t=xs.length:=by omega
   have HO:=GF (hown.lower HB2.out.size);have HBE:=GF (HB2.out.trans (hbr.mono HB2.out.size));clear hown hbr htn ht;go_wp2;refine Kh (v:=u7) (by simp[results,Tryz.results43,go_sem]) rfl ⟨_,rfl,HO.out,HBE.out⟩
end Go.Proofs.YtmakbmhlemhgeaaGreatDoor
