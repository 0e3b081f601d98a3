/- L -/
import Derived.Test.YtgakllaobooabaaGreatDoorXLE2
import Derived.Test.YtgakllaobooabaaGreatDoorXPM8
import Derived.Test.YtgakllaobooabaaGreatDoorXB
set_option linter.all false
set_option maxRecDepth 100000
set_option maxHeartbeats 8000000
namespace Go.Proofs.YtgakllaobooabaaGreatDoor
open Go.RowKit Dg
theorem tR {w:World}{us:List Value}{ls:List (List ByteArray)} (base:Nat) (hl:us.length=ls.length) (h:∀ i (h:i<us.length) (h':i<ls.length),IsS w us[i] ls[i]) (hb:base<=w.heap.size) (h0:us.length<1000) :
  ft (w.alloc (.cells us.toArray 22)) base (.slice (some ⟨w.heap.size,0,none⟩) us.length us.length) ls:=by
 refine⟨⟨us,hl,⟨by omega,Or.inr ⟨w.heap.size,us.length,us.toArray,rfl,hb,heap_alloc_new w _,AA _,by unfold maxLen;omega,by simp,by simp⟩⟩,fun i hi hi'=>(h i hi hi').below (ac _ _)⟩,fun g hg j u hc=>?_⟩;simp only[Value.ownBlock,Option.some.injEq] at hg;subst hg;rw[World.cell?,heap_alloc_new] at hc;simp only[Bj,AU,if_false] at hc;have hm:=BF hc;obtain⟨i,hi,rfl⟩:=A_ (by simpa using hm:u∈us);obtain⟨p,c,hv,-⟩:=(h i hi (by omega)).form;rintro⟨s,e⟩;rw[hv] at e;cases e
theorem mu (w:World) (us:List Value) (T:TypeId):∀ i (h:i<us.length),(w.alloc (.cells us.toArray T)).cell? ⟨w.heap.size,0+i,none⟩=some us[i]:=fun i hi =>
 ap w us.toArray T (0+i) _ (by rw[Bp];simp[hi])
theorem zr:(Tryz.prog.info? 121).map (fun i=>(i.zero,i.size,i.bytes))=some (some (.slice none 0 0),1,24):=by kernel_rfl
theorem lV {w:World}{ops:Array Oper}{rest:List Oper}{o:Oper}{a:Act}{Q:Exit->Act->World->Prop} (T:TypeId)
  (hT:Tryz.prog.underlying T=some (.slice 121)) (hgd:o.guard=none) (lo co:Operand) (hop:o.op=Op.makeSlice T lo co)
  (hl:a.eval lo=.int .i64 0) (hc:a.eval co=.int .i64 0)
  (hK:∀ w',(∀ B w0,Below B w0 w->B<=w.heap.size->Below B w0 w')->wpList Tryz.prog ops Q rest (a.put o.dst (.slice (some ⟨w.heap.size,0,none⟩) 0 0)) w') :
  wpList Tryz.prog ops Q (o :: rest) a w:=by
 obtain⟨i0,hi,hz0,hz1,hz2⟩:=info_parts zr;refine wpList_make_full _ hgd lo co T hop w.heap.size 121 i0 (.slice none 0 0) 1 hT hi hz0 hz1 .i64 .i64 0 0 0 hl hc rfl rfl (by rw[hz2];omega) (by unfold maxLen;omega) (AA _) ?_;intro w' hown hg;exact hK w' (fun B w0 hb hB=>hb.grown hg hB (fun k h=>by cases h))
def pD (a b:List ByteArray):List ByteArray:=(aY CQ.add a b).1
def vR (a b:List ByteArray):List ByteArray:=(aY CQ.sub a b).1
def cB (fa fb:List ByteArray) (n i:Nat):List ByteArray:=pD [am (cS fb (n+1)) i,am (cS fa (n+1)) i] []
def cLs (fa fb:List ByteArray) (n k:Nat):List (List ByteArray):=(List.range k).map (cB fa fb n)
theorem uQ (fa fb:List ByteArray) (n k:Nat):cLs fa fb n (k+1)=cLs fa fb n k++[cB fa fb n k]:=by simp[cLs,List.range_succ]
theorem kq (fa fb:List ByteArray) (n k:Nat):(cLs fa fb n k).length=k:=by simp[cLs]
theorem rM (fa fb:List ByteArray) (n k i:Nat) (h:i<(cLs fa fb n k).length):(cLs fa fb n k)[i]=cB fa fb n i:=by simp[cLs]
def nC (fa fb:List ByteArray) (n:Nat):Nat->List ByteArray
 | 0=>[]
 | k+1=>pD (nC fa fb n k) (cB fa fb n k)
def iu (fa fb:List ByteArray) (n:Nat):Nat->List ByteArray
 | 0=>[]
 | k+1=>if k % 2=0 then pD (iu fa fb n k) (cB fa fb n k) else vR (iu fa fb n k) (cB fa fb n k)
def cZ (fa fb:List ByteArray) (n:Nat):List (List ByteArray):=[cB fa fb n 0,[⟨#[49]⟩]]++if n=0 then [] else [nC fa fb n (n+1),iu fa fb n (n+1)]
theorem n9 (v:Value) (fa fb:List ByteArray) (n:Nat) (w:World) (hF:IsF w v fa fb) (h1:0<fa.length) (h2:0<fb.length) (hn:max fa.length fb.length=n+1) (hn1:n<=1) (hG:Gw w) :
  Calls Tryz.prog 89 #[v] w fun e w'=>∃ u,e=.returned u/\mY w' u (cZ fa fb n)/\Below w.heap.size w w':=by
 obtain⟨p,c,q,d,rfl,hfa,hfb⟩:=id hF.ex
 go_enter Tryz.func89,Tryz.ntmps89
 go_upto_region 1 with fail
 have cc:=ar w (.slice p fa.length c) (.slice q fb.length d)
 have m1:=ac w (.cells #[.slice p fa.length c,.slice q fb.length d] 24)
 have zz:=size_alloc w (.cells #[.slice p fa.length c,.slice q fb.length d] 24)
 generalize w.alloc (.cells #[.slice p fa.length c,.slice q fb.length d] 24)=w1 at *
 have HA:=At (hfa.below m1)
 have HB:=At (hfb.below m1)
 have c0:=cc.1
 have c1:=cc.2
 have hlt:w.heap.size<w1.heap.size:=by omega
 have hfa7:fa.length<=2:=by omega
 have hfb7:fb.length<=2:=by omega
 have hmax:max (fa.length:Int) (fb.length:Int)=((n+1:Nat):Int):=by omega
 have HPA:=At (show (cS fa (n+1)).length=n+1 by rw[fG];omega)
 have HPB:=At (show (cS fb (n+1)).length=n+1 by rw[fG];omega)
 have M1:=At m1
 have HG:=At (hG.below m1)
 clear hfa hfb cc zz m1 hF hn hG
 go_upto_region 3 with fail
 clear hmax
 have m4:Below w1.heap.size w1 w1.drew:=(Dv _ _).drew
 refine ai (fun w'=>∃ x:ax w1.drew.heap.size w1.drew,w'=x.w) (fun i=>i == 4||i == 9) (by kernel_rfl) (by kernel_rfl) ⟨⟨_,Dv _ _⟩,rfl⟩ ?_
 have d0:=aa m4 hlt c0
 have d1:=aa m4 hlt c1
 have hlt4:w.heap.size<w1.drew.heap.size:=by have:=m4.size;omega
 have HA4:=At (HA.out.below m4)
 have HB4:=At (HB.out.below m4)
 have HG4:=At (HG.out.below m4)
 have M4:=At (M1.out.trans (m4.mono M1.out.size))
 clear c0 c1 hlt HA HB HG M1 m4
 generalize w1.drew=wd at *
 have hz:wd.heap.size<=wd.heap.size:=AA _
 have g0:=fun x:ax wd.heap.size wd=>aa x.h hlt4 d0
 have g1:=fun x:ax wd.heap.size wd=>aa x.h hlt4 d1
 clear d0 d1
 refine ae 4 0 _ _ _ (by kernel_rfl) ?_
 simp only[AC,AG,AB,AF]
 repeat (go_big_quiet_step (fail))
 refine wpQuiet_nil ?_
 refine af rfl rfl (fun K hK=>?_)
 go_simp
 refine (show Calls Tryz.prog 12 #[_,.int .i64 ((n:Int)+1)] wd _ from kw _ fa (n+1) wd HA4.out h1 (by omega) (by omega)).mono ?_
 rintro e w5 ⟨u1,rfl,hu1,hb5⟩
 refine hK _ _ ⟨⟨_,(hb5).mono hz⟩,rfl⟩ ?_
 clear hK K
 try simp only[Act.put,Ax,Aw,Av,Au,Ay,Az]
 refine ae 4 5 _ _ _ (by kernel_rfl) ?_
 simp only[AC,AG,AB,AF]
 repeat (go_big_quiet_step (fail))
 refine wpQuiet_nil ?_
 refine af rfl rfl (fun K hK=>?_)
 go_simp
 refine (show Calls Tryz.prog 12 #[_,.int .i64 ((n:Int)+1)] w5 _ from kw _ fb (n+1) w5 (HB4.out.below hb5) h2 (by omega) (by omega)).mono ?_
 rintro e w6 ⟨u2,rfl,hu2,hb6⟩
 have hB6:=hb5.trans (hb6.mono hb5.size)
 refine hK _ _ ⟨⟨_,(hB6).mono hz⟩,rfl⟩ ?_
 clear hK K
 try simp only[Act.put,Ax,Aw,Av,Au,Ay,Az]
 refine ae 2 10 _ _ _ (by kernel_rfl) ?_
 simp only[AC,AG,AB,AF]
 repeat (go_big_quiet_step (fail))
 refine wpQuiet_nil ?_
 refine av ?_
 have HU1:=At (hu1.isS.below hb6)
 have HU2:=At hu2.isS
 have M6:=At (M4.out.trans (hB6.mono M4.out.size))
 have HG6:=At (HG4.out.below hB6)
 obtain⟨p1,c1,rfl,-⟩:=id HU1.out.form
 obtain⟨p2,c2,rfl,-⟩:=id HU2.out.form
 rw[HPA.out] at HU1 |-
 rw[HPB.out] at HU2 |-
 clear hu1 hu2 hb5 hb6 hB6 g0 g1 HA4 HB4 HG4 M4 hlt4 hz
 go_wp2
 go_loopw [3,38] (fun s3 s38 wr=>∃ (i:Nat) (z:Int),s38=.int .i64 z/\z=(i:Int)/\i<=n+1/\ft wr w6.heap.size s3 (cLs fa fb n i)/\Below w6.heap.size w6 wr) (fun _ s38 _=>n+1-(intOf s38).toNat)
 case atStart=>exact⟨0,0,rfl,rfl,AI _,ft.nil _ _,Dv _ _⟩
 case round =>
  obtain⟨i,z,rfl,hzi,hin,hown,hbr⟩:=hrel
  by_cases hi:i<n+1
  ·subst hzi
   have hdi:decide ((i:Int)<(n:Int)+1)=true:=by simp;omega
   obtain⟨b1,o1,rfl,hl1,hcs1⟩:=HU1.out.all (by rw[HPA.out];omega)
   obtain⟨b2,o2,rfl,hl2,hcs2⟩:=HU2.out.all (by rw[HPB.out];omega)
   have hx1:=aa hbr hl1 (hcs1 i (by rw[HPA.out];omega))
   have hx2:=aa hbr hl2 (hcs2 i (by rw[HPB.out];omega))
   have HCB:=At (show pD [am (cS fb (n+1)) i,am (cS fa (n+1)) i] []=cB fa fb n i from rfl)
   obtain⟨tx,htx⟩:∃ t,t=am (cS fb (n+1)) i:=⟨_,rfl⟩
   obtain⟨ty,hty⟩:∃ t,t=am (cS fa (n+1)) i:=⟨_,rfl⟩
   rw[<-htx] at hx2 HCB
   rw[<-hty] at hx1 HCB
   have hiI:(i:Int)<(n:Int)+1:=by omega
   clear hcs1 hcs2 htx hty
   go_upto_region 7 with fail
   have m4:Below wr.heap.size wr wr.drew:=(Dv _ _).drew
   refine ai (fun w'=>∃ x:ax w6.heap.size wr.drew,w'=x.w) (fun i=>i == 9||i == 10||i == 11||i == 12) (by kernel_rfl) (by kernel_rfl) ⟨⟨_,Dv _ _⟩,rfl⟩ ?_
   have hle:=hbr.size
   have HBR:=At (hbr.trans (m4.mono hle))
   have HOW:=At (hown.below m4)
   have hz:w6.heap.size<=wr.drew.heap.size:=AP hle m4.size
   have e1:=aa m4 (AD hl1 hle) hx1
   have e2:=aa m4 (AD hl2 hle) hx2
   clear hown hbr m4 hle hx1 hx2
   generalize wr.drew=wd at *
   have c0:=fun x:ax w6.heap.size wd=>aa x.h hl1 e1
   have c1':=fun x:ax w6.heap.size wd=>aa x.h hl2 e2
   clear e1 e2
   refine ae 9 0 _ _ _ (by kernel_rfl) ?_
   simp only[AC,AG,AB,AF]
   repeat (go_big_quiet_step (fail))
   refine wpQuiet_nil ?_
   clear c0 c1'
   have hm5:=ac wd (.cells #[.string tx,.string ty] 25)
   have h25:=IsS.two wd tx ty
   refine af rfl rfl (fun K hK=>?_)
   go_simp
   refine hK _ _ ⟨⟨_,(hm5).mono hz⟩,rfl⟩ ?_
   clear hK K
   try simp only[Act.put,Ax,Aw,Av,Au,Ay,Az]
   generalize wd.alloc (.cells #[.string tx,.string ty] 25)=wa at *
   refine af rfl rfl (fun K hK=>?_)
   go_simp
   refine (qV _ _ [tx,ty] [] wa h25 (d_.nil _ _) (HG6.out.below (HBR.out.trans (hm5.mono hz)))).mono ?_
   rintro e wb ⟨vb,rfl,hvb,hbb⟩
   rw[show (aY CQ.add [tx,ty] []).1=cB fa fb n i from HCB.out] at hvb
   obtain⟨pb,cb,rfl,-⟩:=id hvb.form
   have hBb:=hm5.trans (hbb.mono hm5.size)
   refine hK _ _ ⟨⟨_,(hBb).mono hz⟩,rfl⟩ ?_
   clear hK K
   try simp only[Act.put,Ax,Aw,Av,Au,Ay,Az]
   have hmc:=ac wb (.cells #[.slice pb (cB fa fb n i).length cb] 22)
   have hBc:=hBb.trans (hmc.mono hBb.size)
   have hown:=HOW.out.below hBc
   have hcl:=mu wb [.slice pb (cB fa fb n i).length cb] 22
   have hvc:=hvb.below hmc
   refine af rfl rfl (fun K hK=>?_)
   go_simp
   refine hK _ _ ⟨⟨_,(hBc).mono hz⟩,rfl⟩ ?_
   clear hK K
   try simp only[Act.put,Ax,Aw,Av,Au,Ay,Az]
   refine af rfl rfl (fun K hK=>?_)
   refine dI rfl ?_
   refine fQ 121 Tryz.underlying121 rfl (.tmp 41) (.tmp 52) rfl w6.heap.size _ (cLs fa fb n i) [cB fa fb n i] [.slice pb (cB fa fb n i).length cb] wb.heap.size 0 1 1 rfl hown rfl rfl (by simp) rfl hcl (fun j hj hj'=>?_) (by rw[kq];simp;omega) (by have:=hBc.size;omega) ?_
   ·simp at hj
    subst hj
    exact hvc
   intro v' w9 hw9 hb9 _ _
   have hB9:=hb9 _ _ (hBc.mono hz) (AA _)
   refine⟨rfl,hK _ _ ⟨⟨_,hB9⟩,rfl⟩ ?_⟩
   clear hK K
   try simp only[Act.put,Ax,Aw,Av,Au,Ay,Az]
   rw[<-uQ] at hw9
   have hBF:=HBR.out.trans hB9
   clear hm5 h25 hvb hbb hBb hmc hBc hown hcl hvc hb9 HOW hB9 hz HBR HCB
   refine ae 1 13 _ _ _ (by kernel_rfl) ?_
   simp only[AC,AG,AB,AF]
   repeat (go_big_quiet_step (fail))
   refine wpQuiet_nil ?_
   refine av ?_
   go_wp2
   go_roundw
   case rel=>exact⟨i+1,_,rfl,by go_num,by omega,hw9,hBF⟩
   case measure=>simp[intOf]<;>omega
  ·obtain rfl:i=n+1:=by omega
   obtain rfl:z=(n:Int)+1:=by omega
   have hC:=hown.isPS
   obtain⟨pc,cc,rfl,-⟩:=id hC.form
   rw[kq] at hC |-
   have HC:=At hC
   have HBW:=At (M6.out.trans (hbr.mono M6.out.size))
   have HGW:=At (HG6.out.below hbr)
   clear hC hown hbr hi hin hzi HU1 HU2 HPA HPB
   rename World=>wl
   go_wp2
   go_loopw [8,9,57] (fun s8 s9 s57 wr=>∃ (i:Nat) (z:Int),s57=.int .i64 z/\z=(i:Int)/\i<=n+1/\IsS wr s8 (nC fa fb n i)/\IsS wr s9 (iu fa fb n i)/\Below wl.heap.size wl wr) (fun _ _ s57 _=>n+1-(intOf s57).toNat)
   case atStart=>exact⟨0,0,rfl,rfl,AI _,d_.nil _ _,d_.nil _ _,Dv _ _⟩
   case round =>
    obtain⟨i,z,rfl,hzi,hin,h8,h9,hbr⟩:=hrel
    have HBR:=At hbr
    have H8:=At h8
    have H9:=At h9
    by_cases hi:i<n+1
    ·subst hzi
     have hiI:(i:Int)<(n:Int)+1:=by omega
     have hdi:decide ((i:Int)<(n:Int)+1)=true:=decide_eq_true hiI
     obtain⟨bc,oc,uc,rfl,hlc,hcc,huc⟩:=HC.out.get (i:=i) (by rw[kq];exact hi)
     rw[rM] at huc
     obtain⟨pu,cu,rfl,-⟩:=id huc.form
     have hcc:=aa hbr hlc hcc
     have HUC:=At (huc.below hbr)
     have HP8:=At (qV _ _ _ _ wr h8 HUC.out (HGW.out.below hbr))
     obtain⟨p8,c8,rfl,-⟩:=id h8.form
     obtain⟨p9,c9,rfl,-⟩:=id h9.form
     clear h8 h9 huc hbr
     by_cases hr2:i % 2=0
     ·have hrm:Int.tmod (i:Int) 2=0:=by
       show ((i % 2:Nat):Int)=0
       omega
      have HP2:=At (show iu fa fb n (i+1)=pD (iu fa fb n i) (cB fa fb n i) by rw[iu,if_pos hr2])
      clear hr2
      go_wp2_with fail
      refine HP8.out.mono ?_
      rintro e w2 ⟨v2,rfl,hv2,hb2⟩
      have HB2:=HBR.out.trans (hb2.mono HBR.out.size)
      have HV2:=At hv2
      clear hv2 HP8
      go_wp2_with fail
      refine (qV _ _ _ _ w2 (H9.out.below hb2) (HUC.out.below hb2) (HGW.out.below HB2)).mono ?_
      rintro e w3 ⟨v3,rfl,hv3,hb3⟩
      have HB3:=HB2.trans (hb3.mono HB2.size)
      have hv2:=HV2.out.below hb3
      clear HB2 hb2 hb3 HV2 HUC H8 H9 HBR
      go_wp2
      go_roundw
      case rel=>exact⟨i+1,_,rfl,by go_num,by omega,hv2,by rw[HP2.out];exact hv3,HB3⟩
      case measure=>simp[intOf]<;>omega
     ·have hrm:Int.tmod (i:Int) 2=1:=by
       show ((i % 2:Nat):Int)=1
       omega
      have HP2:=At (show iu fa fb n (i+1)=vR (iu fa fb n i) (cB fa fb n i) by rw[iu,if_neg hr2])
      clear hr2
      go_wp2_with fail
      refine HP8.out.mono ?_
      rintro e w2 ⟨v2,rfl,hv2,hb2⟩
      have HB2:=HBR.out.trans (hb2.mono HBR.out.size)
      have HV2:=At hv2
      clear hv2 HP8
      go_wp2_with fail
      refine (ye _ _ _ _ w2 (H9.out.below hb2) (HUC.out.below hb2) (HGW.out.below HB2)).mono ?_
      rintro e w3 ⟨v3,rfl,hv3,hb3⟩
      have HB3:=HB2.trans (hb3.mono HB2.size)
      have hv2:=HV2.out.below hb3
      clear HB2 hb2 hb3 HV2 HUC H8 H9 HBR
      go_wp2
      go_roundw
      case rel=>exact⟨i+1,_,rfl,by go_num,by omega,hv2,by rw[HP2.out];exact hv3,HB3⟩
      case measure=>simp[intOf]<;>omega
    ·obtain rfl:i=n+1:=by omega
     obtain rfl:z=(n:Int)+1:=by omega
     have hdi:decide ((n:Int)+1<(n:Int)+1)=false:=by simp
     have hmx:max (0:Int) ((n:Int)-1)=0:=by omega
     have HCR:=At (HC.out.below hbr)
     clear h8 h9 hbr hi hzi
     have HNW:=HBW.out
     go_wp2_with (at_make;refine lV 151 Tryz.underlying151 rfl (.tmp 77) (.tmp 77) rfl rfl rfl ?_)
     intro w2 hb2
     have HB2:=At (hb2 _ _ HBR.out (HBR.out.size))
     have HCR:=At (HCR.out.below (hb2 _ _ (Dv _ _) (AA _)))
     have H8:=At (H8.out.below (hb2 _ _ (Dv _ _) (AA _)))
     have H9:=At (H9.out.below (hb2 _ _ (Dv _ _) (AA _)))
     clear hb2 HNW
     obtain⟨g2,hg2⟩:∃ g,g=wr.heap.size:=⟨_,rfl⟩
     rw[<-hg2]
     clear hg2
     go_wp2
     rename World=>w2
     go_loopw [81] (fun s81 wi=>s81=.int .i64 0/\wi=w2) (fun _ _=>0)
     case atStart=>exact⟨rfl,rfl⟩
     case round =>
      obtain⟨rfl,rfl⟩:=hrel
      obtain⟨bc,oc,uc,rfl,hlc,hcc,huc⟩:=HCR.out.get (i:=0) (by rw[kq];omega)
      rw[rM] at huc
      simp only[Bb] at hcc
      obtain⟨pu,cu,rfl,-⟩:=id huc.form
      obtain⟨p8,c8,rfl,-⟩:=id H8.out.form
      obtain⟨p9,c9,rfl,-⟩:=id H9.out.form
      have h0n:(0:Int)<(n:Int)+1:=by omega
      go_upto_region 34 with fail
      have m4:Below wr.heap.size wr wr.drew:=(Dv _ _).drew
      refine ai (fun w'=>∃ x:ax wr.drew.heap.size wr.drew,w'=x.w) (fun i=>i == 4||i == 5) (by kernel_rfl) (by kernel_rfl) ⟨⟨_,Dv _ _⟩,rfl⟩ ?_
      have HUC:=At (huc.below m4)
      have H8:=At (H8.out.below m4)
      have H9:=At (H9.out.below m4)
      have HB2:=At (HBW.out.trans ((HB2.out.trans (m4.mono HB2.out.size)).mono HBW.out.size))
      have e1:=aa m4 hlc hcc
      have hlc:=AD hlc m4.size
      clear huc m4 hcc HCR HC HBR
      generalize wr.drew=wd at *
      have hz:wd.heap.size<=wd.heap.size:=AA _
      have g0:=fun x:ax wd.heap.size wd=>aa x.h hlc e1
      clear e1
      refine ae 4 0 _ _ _ (by kernel_rfl) ?_
      simp only[AC,AG,AB,AF]
      repeat (go_big_quiet_step (fail))
      refine wpQuiet_nil ?_
      clear g0
      refine af rfl rfl (fun K hK=>?_)
      go_simp
      refine (detN _ _ wd).mono ?_
      rintro e w3 ⟨ud,rfl,hud,hb3⟩
      obtain⟨pd,cd,rfl,-⟩:=id hud.form
      refine hK _ _ ⟨⟨_,(hb3).mono hz⟩,rfl⟩ ?_
      clear hK K
      try simp only[Act.put,Ax,Aw,Av,Au,Ay,Az]
      have hm4:=ac w3 (.cells #[.slice pu (cB fa fb n 0).length cu,.slice pd 1 cd] 22)
      have hB4:=hb3.trans (hm4.mono hb3.size)
      refine af rfl rfl (fun K hK=>?_)
      go_simp
      refine hK _ _ ⟨⟨_,(hB4).mono hz⟩,rfl⟩ ?_
      clear hK K
      try simp only[Act.put,Ax,Aw,Av,Au,Ay,Az]
      have hU3:=HUC.out.below hb3
      have HL:=At (show ft (w3.alloc (.cells #[.slice pu (cB fa fb n 0).length cu,.slice pd 1 cd] 22)) w3.heap.size (.slice (some ⟨w3.heap.size,0,none⟩) 2 2) [cB fa fb n 0,[⟨#[49]⟩]] from
       tR (us:=[.slice pu (cB fa fb n 0).length cu,.slice pd 1 cd]) w3.heap.size rfl (fun j hj hj'=>by
        match j,hj with
        | 0,_=>exact hU3
        | 1,_=>exact hud) (AA _) (by simp))
      have H8:=At (H8.out.below hB4)
      have H9:=At (H9.out.below hB4)
      have HB4:=At (HB2.out.trans (hB4.mono HB2.out.size))
      have HWZ:=At (show w.heap.size<=w3.heap.size by have:=HB2.out.size;have:=hb3.size;omega)
      have hg3:w3.heap.size<=(w3.alloc (.cells #[.slice pu (cB fa fb n 0).length cu,.slice pd 1 cd] 22)).heap.size:=hm4.size
      clear hb3 hm4 hB4 hU3 hud HUC HB2
      refine ae 1 6 _ _ _ (by kernel_rfl) ?_
      simp only[AC,AG,AB,AF]
      repeat (go_big_quiet_step (fail))
      refine wpQuiet_nil ?_
      refine av ?_
      generalize w3.alloc (.cells #[.slice pu (cB fa fb n 0).length cu,.slice pd 1 cd] 22)=w4 at *
      by_cases hn0:n=0
      ·subst hn0
       have HE:=At (show cZ fa fb 0=[cB fa fb 0 0,[⟨#[49]⟩]] by unfold cZ;rw[if_pos rfl];rfl)
       go_wp2
       go_ret
       exact⟨_,rfl,by rw[HE.out];exact HL.out.isPS,HB4.out⟩
      ·have hn0I:(0:Int)<(n:Int):=by omega
       have HE:=At (show cZ fa fb n=[cB fa fb n 0,[⟨#[49]⟩]]++[nC fa fb n (n+1),iu fa fb n (n+1)] by unfold cZ;rw[if_neg hn0])
       have hm5:=ac w4 (.cells #[.slice p8 (nC fa fb n (n+1)).length c8,.slice p9 (iu fa fb n (n+1)).length c9] 22)
       have hown:=HL.out.below hm5
       have hcl:=mu w4 [.slice p8 (nC fa fb n (n+1)).length c8,.slice p9 (iu fa fb n (n+1)).length c9] 22
       have h8:=H8.out.below hm5
       have h9:=H9.out.below hm5
       have hgg:w3.heap.size<=(w4.alloc (.cells #[.slice p8 (nC fa fb n (n+1)).length c8,.slice p9 (iu fa fb n (n+1)).length c9] 22)).heap.size:=by have:=hm5.size;omega
       have HM5:=At hm5
       clear hm5 hn0
       go_wp2_with (at_builtin;refine fQ 121 Tryz.underlying121 rfl (.tmp 134) (.tmp 137) rfl w3.heap.size _ [cB fa fb n 0,[⟨#[49]⟩]] [nC fa fb n (n+1),iu fa fb n (n+1)] [.slice p8 (nC fa fb n (n+1)).length c8,.slice p9 (iu fa fb n (n+1)).length c9] w4.heap.size 0 2 2 rfl hown rfl rfl (by simp) rfl hcl (fun j hj hj'=>by
        match j,hj with
        | 0,_=>exact h8
        | 1,_=>exact h9) (by simp) hgg ?_)
       intro v' w5 hw5 hb5 _ _
       have HW:=At hw5.isPS
       have HBF:=At (hb5 _ _ (HB4.out.trans (HM5.out.mono HB4.out.size)) HWZ.out)
       clear hw5 hb5 hown hcl h8 h9
       go_wp2
       go_ret
       exact⟨_,rfl,by rw[HE.out];exact HW.out,HBF.out⟩
end Go.Proofs.YtgakllaobooabaaGreatDoor
