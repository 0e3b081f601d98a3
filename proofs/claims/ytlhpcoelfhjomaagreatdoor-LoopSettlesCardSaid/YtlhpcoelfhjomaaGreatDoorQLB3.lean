/- L -/
import Derived.Test.YtlhpcoelfhjomaaGreatDoorQReg
import Derived.Test.YtlhpcoelfhjomaaGreatDoorQLH1
import Derived.Test.YtlhpcoelfhjomaaGreatDoorQLB4
set_option linter.all false
set_option maxRecDepth 100000
set_option maxHeartbeats 8000000
namespace Go.Proofs.YtlhpcoelfhjomaaGreatDoor
open Go.RowKit Dg
theorem Bv {w:World}{us:List Value}{ls:List (List ByteArray)} (base:Nat) (hl:us.length=ls.length) (h:∀ i (h:i<us.length) (h':i<ls.length),IsS w us[i] ls[i]) (hb:base<=w.heap.size) (h0:us.length<1000) :
  i6 (w.alloc (.cells us.toArray 22)) base (.slice (some ⟨w.heap.size,0,none⟩) us.length us.length) ls:=by
 refine⟨⟨us,hl,⟨by omega,Or.inr ⟨w.heap.size,us.length,us.toArray,rfl,hb,heap_alloc_new w _,Iw _,by unfold maxLen;omega,by simp,by simp⟩⟩,fun i hi hi'=>(h i hi hi').below (aj _ _)⟩,fun g hg j u hc=>?_⟩;simp only[Value.ownBlock,Option.some.injEq] at hg;subst hg;rw[World.cell?,heap_alloc_new] at hc;simp only[Jl,IW,if_false] at hc;have hm:=Jm hc;obtain⟨i,hi,rfl⟩:=Jq (by simpa using hm:u∈us);obtain⟨p,c,hv,-⟩:=(h i hi (by omega)).form;rintro⟨s,e⟩;rw[hv] at e;cases e
theorem sC (w:World) (us:List Value) (T:TypeId):∀ i (h:i<us.length),(w.alloc (.cells us.toArray T)).cell? ⟨w.heap.size,0+i,none⟩=some us[i]:=fun i hi =>
 aI w us.toArray T (0+i) _ (by rw[Jk];simp[hi])
theorem GU:(Tryz.prog.info? 158).map (fun i=>(i.zero,i.size,i.bytes))=some (some (.slice none 0 0),1,24):=by kernel_rfl
theorem rQ {w:World}{ops:Array Oper}{rest:List Oper}{o:Oper}{a:Act}{Q:Exit->Act->World->Prop} (T:TypeId)
  (hT:Tryz.prog.underlying T=some (.slice 158)) (hgd:o.guard=none) (lo co:Operand) (hop:o.op=Op.makeSlice T lo co)
  (hl:a.eval lo=.int .i64 0) (hc:a.eval co=.int .i64 0)
  (hK:∀ w',(∀ B w0,Below B w0 w->B<=w.heap.size->Below B w0 w')->wpList Tryz.prog ops Q rest (a.put o.dst (.slice (some ⟨w.heap.size,0,none⟩) 0 0)) w') :
  wpList Tryz.prog ops Q (o :: rest) a w:=by
 obtain⟨i0,hi,hz0,hz1,hz2⟩:=info_parts GU;refine wpList_make_full _ hgd lo co T hop w.heap.size 158 i0 (.slice none 0 0) 1 hT hi hz0 hz1 .i64 .i64 0 0 0 hl hc rfl rfl (by rw[hz2];omega) (by unfold maxLen;omega) (Iw _) ?_;intro w' hown hg;exact hK w' (fun B w0 hb hB=>hb.grown hg hB (fun k h=>by cases h))
def wD (a b:List ByteArray):List ByteArray:=(ck CQ.add a b).1
def DG (a b:List ByteArray):List ByteArray:=(ck CQ.sub a b).1
def cB (fa fb:List ByteArray) (n i:Nat):List ByteArray:=wD [aD (eS fb (n+1)) i,aD (eS fa (n+1)) i] []
def cLs (fa fb:List ByteArray) (n k:Nat):List (List ByteArray):=(List.range k).map (cB fa fb n)
theorem CA (fa fb:List ByteArray) (n k:Nat):cLs fa fb n (k+1)=cLs fa fb n k++[cB fa fb n k]:=by simp[cLs,List.range_succ]
theorem oQ (fa fb:List ByteArray) (n k:Nat):(cLs fa fb n k).length=k:=by simp[cLs]
theorem zt (fa fb:List ByteArray) (n k i:Nat) (h:i<(cLs fa fb n k).length):(cLs fa fb n k)[i]=cB fa fb n i:=by simp[cLs]
def ub (fa fb:List ByteArray) (n:Nat):Nat->List ByteArray
 | 0=>[]
 | k+1=>wD (ub fa fb n k) (cB fa fb n k)
def lm (fa fb:List ByteArray) (n:Nat):Nat->List ByteArray
 | 0=>[]
 | k+1=>if k % 2=0 then wD (lm fa fb n k) (cB fa fb n k) else DG (lm fa fb n k) (cB fa fb n k)
def eZ (fa fb:List ByteArray) (n:Nat):List (List ByteArray):=[cB fa fb n 0,[⟨#[49]⟩]]++if n=0 then [] else [ub fa fb n (n+1),lm fa fb n (n+1)]
theorem uP (v:Value) (fa fb:List ByteArray) (n:Nat) (w:World) (hF:IsF w v fa fb) (h1:0<fa.length) (h2:0<fb.length) (hn:max fa.length fb.length=n+1) (hn1:n<=1) (hG:Gw w) :
  Calls Tryz.prog 129 #[v] w fun e w'=>∃ u,e=.returned u/\tv w' u (eZ fa fb n)/\Below w.heap.size w w':=by
 obtain⟨p,c,q,d,rfl,hfa,hfb⟩:=id hF.ex
 go_enter Tryz.func129,Tryz.ntmps129
 go_upto_region 1 with fail
 have cc:=aG w (.slice p fa.length c) (.slice q fb.length d)
 have m1:=aj w (.cells #[.slice p fa.length c,.slice q fb.length d] 24)
 have zz:=size_alloc w (.cells #[.slice p fa.length c,.slice q fb.length d] 24)
 generalize w.alloc (.cells #[.slice p fa.length c,.slice q fb.length d] 24)=w1 at *
 have HA:=Ip (hfa.below m1)
 have HB:=Ip (hfb.below m1)
 have c0:=cc.1
 have c1:=cc.2
 have hlt:w.heap.size<w1.heap.size:=by omega
 have hfa7:fa.length<=2:=by omega
 have hfb7:fb.length<=2:=by omega
 have hmax:max (fa.length:Int) (fb.length:Int)=((n+1:Nat):Int):=by omega
 have HPA:=Ip (show (eS fa (n+1)).length=n+1 by rw[ji];omega)
 have HPB:=Ip (show (eS fb (n+1)).length=n+1 by rw[ji];omega)
 have M1:=Ip m1
 have HG:=Ip (hG.below m1)
 clear hfa hfb cc zz m1 hF hn hG
 go_upto_region 3 with fail
 clear hmax
 have m4:Below w1.heap.size w1 w1.drew:=(LN _ _).drew
 refine av (fun w'=>∃ x:az w1.drew.heap.size w1.drew,w'=x.w) (fun i=>i == 4||i == 9) (by kernel_rfl) (by kernel_rfl) ⟨⟨_,LN _ _⟩,rfl⟩ ?_
 have d0:=ag m4 hlt c0
 have d1:=ag m4 hlt c1
 have hlt4:w.heap.size<w1.drew.heap.size:=by have:=m4.size;omega
 have HA4:=Ip (HA.out.below m4)
 have HB4:=Ip (HB.out.below m4)
 have HG4:=Ip (HG.out.below m4)
 have M4:=Ip (LK M1.out m4)
 clear c0 c1 hlt HA HB HG M1 m4
 generalize w1.drew=wd at *
 have hz:wd.heap.size<=wd.heap.size:=Iw _
 have g0:=fun x:az wd.heap.size wd=>ag x.h hlt4 d0
 have g1:=fun x:az wd.heap.size wd=>ag x.h hlt4 d1
 clear d0 d1
 refine ak 4 0 _ _ _ (by kernel_rfl) ?_
 simp only[Ix,IC,Iy,IA]
 repeat (go_big_quiet_step (fail))
 refine wpQuiet_nil ?_
 refine ap rfl rfl (fun K hK=>?_)
 go_simp
 refine (show Calls Tryz.prog 27 #[_,.int .i64 ((n:Int)+1)] wd _ from oU _ fa (n+1) wd HA4.out h1 (by omega) (by omega)).mono ?_
 rintro e w5 ⟨u1,rfl,hu1,hb5⟩
 refine hK _ _ ⟨⟨_,(hb5).mono hz⟩,rfl⟩ ?_
 clear hK K
 try simp only[Act.put,It,Is,Ir,Iq,Iu,Iv]
 refine ak 4 5 _ _ _ (by kernel_rfl) ?_
 simp only[Ix,IC,Iy,IA]
 repeat (go_big_quiet_step (fail))
 refine wpQuiet_nil ?_
 refine ap rfl rfl (fun K hK=>?_)
 go_simp
 refine (show Calls Tryz.prog 27 #[_,.int .i64 ((n:Int)+1)] w5 _ from oU _ fb (n+1) w5 (HB4.out.below hb5) h2 (by omega) (by omega)).mono ?_
 rintro e w6 ⟨u2,rfl,hu2,hb6⟩
 have hB6:=LK hb5 hb6
 refine hK _ _ ⟨⟨_,(hB6).mono hz⟩,rfl⟩ ?_
 clear hK K
 try simp only[Act.put,It,Is,Ir,Iq,Iu,Iv]
 refine ak 2 10 _ _ _ (by kernel_rfl) ?_
 simp only[Ix,IC,Iy,IA]
 repeat (go_big_quiet_step (fail))
 refine wpQuiet_nil ?_
 refine aE ?_
 have HU1:=Ip (hu1.isS.below hb6)
 have HU2:=Ip hu2.isS
 have M6:=Ip (LK M4.out hB6)
 have HG6:=Ip (HG4.out.below hB6)
 obtain⟨p1,c1,rfl,-⟩:=id HU1.out.form
 obtain⟨p2,c2,rfl,-⟩:=id HU2.out.form
 rw[HPA.out] at HU1 |-
 rw[HPB.out] at HU2 |-
 clear hu1 hu2 hb5 hb6 hB6 g0 g1 HA4 HB4 HG4 M4 hlt4 hz
 go_wp2
 go_loopw [3,38] (fun s3 s38 wr=>∃ (i:Nat) (z:Int),s38=.int .i64 z/\z=(i:Int)/\i<=n+1/\i6 wr w6.heap.size s3 (cLs fa fb n i)/\Below w6.heap.size w6 wr) (fun _ s38 _=>n+1-(intOf s38).toNat)
 case atStart=>exact⟨0,0,rfl,rfl,IF _,i6.nil _ _,LN _ _⟩
 case round =>
  obtain⟨i,z,rfl,hzi,hin,hown,hbr⟩:=hrel
  by_cases hi:i<n+1
  ·subst hzi
   have hdi:decide ((i:Int)<(n:Int)+1)=true:=by simp;omega
   obtain⟨b1,o1,rfl,hl1,hcs1⟩:=HU1.out.all (by rw[HPA.out];omega)
   obtain⟨b2,o2,rfl,hl2,hcs2⟩:=HU2.out.all (by rw[HPB.out];omega)
   have hx1:=ag hbr hl1 (hcs1 i (by rw[HPA.out];omega))
   have hx2:=ag hbr hl2 (hcs2 i (by rw[HPB.out];omega))
   have HCB:=Ip (show wD [aD (eS fb (n+1)) i,aD (eS fa (n+1)) i] []=cB fa fb n i from rfl)
   obtain⟨tx,htx⟩:∃ t,t=aD (eS fb (n+1)) i:=⟨_,rfl⟩
   obtain⟨ty,hty⟩:∃ t,t=aD (eS fa (n+1)) i:=⟨_,rfl⟩
   rw[<-htx] at hx2 HCB
   rw[<-hty] at hx1 HCB
   have hiI:(i:Int)<(n:Int)+1:=by omega
   clear hcs1 hcs2 htx hty
   go_upto_region 7 with fail
   have m4:Below wr.heap.size wr wr.drew:=(LN _ _).drew
   refine av (fun w'=>∃ x:az w6.heap.size wr.drew,w'=x.w) (fun i=>i == 9||i == 10||i == 11||i == 12) (by kernel_rfl) (by kernel_rfl) ⟨⟨_,LN _ _⟩,rfl⟩ ?_
   have hle:=hbr.size
   have HBR:=Ip (hbr.trans (m4.mono hle))
   have HOW:=Ip (hown.below m4)
   have hz:w6.heap.size<=wr.drew.heap.size:=IB hle m4.size
   have e1:=ag m4 (Iz hl1 hle) hx1
   have e2:=ag m4 (Iz hl2 hle) hx2
   clear hown hbr m4 hle hx1 hx2
   generalize wr.drew=wd at *
   have c0:=fun x:az w6.heap.size wd=>ag x.h hl1 e1
   have c1':=fun x:az w6.heap.size wd=>ag x.h hl2 e2
   clear e1 e2
   refine ak 9 0 _ _ _ (by kernel_rfl) ?_
   simp only[Ix,IC,Iy,IA]
   repeat (go_big_quiet_step (fail))
   refine wpQuiet_nil ?_
   clear c0 c1'
   have hm5:=aj wd (.cells #[.string tx,.string ty] 25)
   have h25:=IsS.two wd tx ty
   refine ap rfl rfl (fun K hK=>?_)
   go_simp
   refine hK _ _ ⟨⟨_,(hm5).mono hz⟩,rfl⟩ ?_
   clear hK K
   try simp only[Act.put,It,Is,Ir,Iq,Iu,Iv]
   generalize wd.alloc (.cells #[.string tx,.string ty] 25)=wa at *
   refine ap rfl rfl (fun K hK=>?_)
   go_simp
   refine (yB _ _ [tx,ty] [] wa h25 (gy.nil _ _) (HG6.out.below (HBR.out.trans (hm5.mono hz)))).mono ?_
   rintro e wb ⟨vb,rfl,hvb,hbb⟩
   rw[show (ck CQ.add [tx,ty] []).1=cB fa fb n i from HCB.out] at hvb
   obtain⟨pb,cb,rfl,-⟩:=id hvb.form
   have hBb:=LK hm5 hbb
   refine hK _ _ ⟨⟨_,(hBb).mono hz⟩,rfl⟩ ?_
   clear hK K
   try simp only[Act.put,It,Is,Ir,Iq,Iu,Iv]
   have hmc:=aj wb (.cells #[.slice pb (cB fa fb n i).length cb] 22)
   have hBc:=LK hBb hmc
   have hown:=HOW.out.below hBc
   have hcl:=sC wb [.slice pb (cB fa fb n i).length cb] 22
   have hvc:=hvb.below hmc
   refine ap rfl rfl (fun K hK=>?_)
   go_simp
   refine hK _ _ ⟨⟨_,(hBc).mono hz⟩,rfl⟩ ?_
   clear hK K
   try simp only[Act.put,It,Is,Ir,Iq,Iu,Iv]
   refine ap rfl rfl (fun K hK=>?_)
   refine dR rfl ?_
   refine js 158 Tryz.underlying158 rfl (.tmp 41) (.tmp 52) rfl w6.heap.size _ (cLs fa fb n i) [cB fa fb n i] [.slice pb (cB fa fb n i).length cb] wb.heap.size 0 1 1 rfl hown rfl rfl (by simp) rfl hcl (fun j hj hj'=>?_) (by rw[oQ];simp;omega) (by have:=hBc.size;omega) ?_
   ·simp at hj
    subst hj
    exact hvc
   intro v' w9 hw9 hb9 _ _
   have hB9:=hb9 _ _ (hBc.mono hz) (Iw _)
   refine⟨rfl,hK _ _ ⟨⟨_,hB9⟩,rfl⟩ ?_⟩
   clear hK K
   try simp only[Act.put,It,Is,Ir,Iq,Iu,Iv]
   rw[<-CA] at hw9
   have hBF:=HBR.out.trans hB9
   clear hm5 h25 hvb hbb hBb hmc hBc hown hcl hvc hb9 HOW hB9 hz HBR HCB
   refine ak 1 13 _ _ _ (by kernel_rfl) ?_
   simp only[Ix,IC,Iy,IA]
   repeat (go_big_quiet_step (fail))
   refine wpQuiet_nil ?_
   refine aE ?_
   go_wp2
   go_roundw
   case rel=>exact⟨i+1,_,rfl,by go_num,by omega,hw9,hBF⟩
   case measure=>simp[intOf]<;>omega
  ·obtain rfl:i=n+1:=by omega
   obtain rfl:z=(n:Int)+1:=by omega
   have hC:=hown.isPS
   obtain⟨pc,cc,rfl,-⟩:=id hC.form
   rw[oQ] at hC |-
   have HC:=Ip hC
   have HBW:=Ip (LK M6.out hbr)
   have HGW:=Ip (HG6.out.below hbr)
   clear hC hown hbr hi hin hzi HU1 HU2 HPA HPB
   rename World=>wl
   go_wp2
   go_loopw [8,9,57] (fun s8 s9 s57 wr=>∃ (i:Nat) (z:Int),s57=.int .i64 z/\z=(i:Int)/\i<=n+1/\IsS wr s8 (ub fa fb n i)/\IsS wr s9 (lm fa fb n i)/\Below wl.heap.size wl wr) (fun _ _ s57 _=>n+1-(intOf s57).toNat)
   case atStart=>exact⟨0,0,rfl,rfl,IF _,gy.nil _ _,gy.nil _ _,LN _ _⟩
   case round =>
    obtain⟨i,z,rfl,hzi,hin,h8,h9,hbr⟩:=hrel
    have HBR:=Ip hbr
    have H8:=Ip h8
    have H9:=Ip h9
    by_cases hi:i<n+1
    ·subst hzi
     have hiI:(i:Int)<(n:Int)+1:=by omega
     have hdi:decide ((i:Int)<(n:Int)+1)=true:=decide_eq_true hiI
     obtain⟨bc,oc,uc,rfl,hlc,hcc,huc⟩:=HC.out.get (i:=i) (by rw[oQ];exact hi)
     rw[zt] at huc
     obtain⟨pu,cu,rfl,-⟩:=id huc.form
     have hcc:=ag hbr hlc hcc
     have HUC:=Ip (huc.below hbr)
     have HP8:=Ip (yB _ _ _ _ wr h8 HUC.out (HGW.out.below hbr))
     obtain⟨p8,c8,rfl,-⟩:=id h8.form
     obtain⟨p9,c9,rfl,-⟩:=id h9.form
     clear h8 h9 huc hbr
     by_cases hr2:i % 2=0
     ·have hrm:Int.tmod (i:Int) 2=0:=by
       show ((i % 2:Nat):Int)=0
       omega
      have HP2:=Ip (show lm fa fb n (i+1)=wD (lm fa fb n i) (cB fa fb n i) by rw[lm,if_pos hr2])
      clear hr2
      go_wp2_with fail
      refine HP8.out.mono ?_
      rintro e w2 ⟨v2,rfl,hv2,hb2⟩
      have HB2:=LK HBR.out hb2
      have HV2:=Ip hv2
      clear hv2 HP8
      go_wp2_with fail
      refine (yB _ _ _ _ w2 (H9.out.below hb2) (HUC.out.below hb2) (HGW.out.below HB2)).mono ?_
      rintro e w3 ⟨v3,rfl,hv3,hb3⟩
      have HB3:=LK HB2 hb3
      have hv2:=HV2.out.below hb3
      clear HB2 hb2 hb3 HV2 HUC H8 H9 HBR
      go_wp2
      go_roundw
      case rel=>exact⟨i+1,_,rfl,by go_num,by omega,hv2,by rw[HP2.out];exact hv3,HB3⟩
      case measure=>simp[intOf]<;>omega
     ·have hrm:Int.tmod (i:Int) 2=1:=by
       show ((i % 2:Nat):Int)=1
       omega
      have HP2:=Ip (show lm fa fb n (i+1)=DG (lm fa fb n i) (cB fa fb n i) by rw[lm,if_neg hr2])
      clear hr2
      go_wp2_with fail
      refine HP8.out.mono ?_
      rintro e w2 ⟨v2,rfl,hv2,hb2⟩
      have HB2:=LK HBR.out hb2
      have HV2:=Ip hv2
      clear hv2 HP8
      go_wp2_with fail
      refine (Fx _ _ _ _ w2 (H9.out.below hb2) (HUC.out.below hb2) (HGW.out.below HB2)).mono ?_
      rintro e w3 ⟨v3,rfl,hv3,hb3⟩
      have HB3:=LK HB2 hb3
      have hv2:=HV2.out.below hb3
      clear HB2 hb2 hb3 HV2 HUC H8 H9 HBR
      go_wp2
      go_roundw
      case rel=>exact⟨i+1,_,rfl,by go_num,by omega,hv2,by rw[HP2.out];exact hv3,HB3⟩
      case measure=>simp[intOf]<;>omega
    ·obtain rfl:i=n+1:=by omega
     obtain rfl:z=(n:Int)+1:=by omega
     have hdi:decide ((n:Int)+1<(n:Int)+1)=false:=by simp
     have hmx:max (0:Int) ((n:Int)-1)=0:=by omega
     have HCR:=Ip (HC.out.below hbr)
     clear h8 h9 hbr hi hzi
     have HNW:=HBW.out
     go_wp2_with (at_make;refine rQ 193 Tryz.underlying193 rfl (.tmp 77) (.tmp 77) rfl rfl rfl ?_)
     intro w2 hb2
     have HB2:=Ip (hb2 _ _ HBR.out (HBR.out.size))
     have HCR:=Ip (HCR.out.below (hb2 _ _ (LN _ _) (Iw _)))
     have H8:=Ip (H8.out.below (hb2 _ _ (LN _ _) (Iw _)))
     have H9:=Ip (H9.out.below (hb2 _ _ (LN _ _) (Iw _)))
     clear hb2 HNW
     obtain⟨g2,hg2⟩:∃ g,g=wr.heap.size:=⟨_,rfl⟩
     rw[<-hg2]
     clear hg2
     go_wp2
     rename World=>w2
     go_loopw [81] (fun s81 wi=>s81=.int .i64 0/\wi=w2) (fun _ _=>0)
     case atStart=>exact⟨rfl,rfl⟩
     case round =>
      obtain⟨rfl,rfl⟩:=hrel
      obtain⟨bc,oc,uc,rfl,hlc,hcc,huc⟩:=HCR.out.get (i:=0) (by rw[oQ];omega)
      rw[zt] at huc
      simp only[I7] at hcc
      obtain⟨pu,cu,rfl,-⟩:=id huc.form
      obtain⟨p8,c8,rfl,-⟩:=id H8.out.form
      obtain⟨p9,c9,rfl,-⟩:=id H9.out.form
      have h0n:(0:Int)<(n:Int)+1:=by omega
      go_upto_region 34 with fail
      have m4:Below wr.heap.size wr wr.drew:=(LN _ _).drew
      refine av (fun w'=>∃ x:az wr.drew.heap.size wr.drew,w'=x.w) (fun i=>i == 4||i == 5) (by kernel_rfl) (by kernel_rfl) ⟨⟨_,LN _ _⟩,rfl⟩ ?_
      have HUC:=Ip (huc.below m4)
      have H8:=Ip (H8.out.below m4)
      have H9:=Ip (H9.out.below m4)
      have HB2:=Ip (LK HBW.out (LK HB2.out m4))
      have e1:=ag m4 hlc hcc
      have hlc:=Iz hlc m4.size
      clear huc m4 hcc HCR HC HBR
      generalize wr.drew=wd at *
      have hz:wd.heap.size<=wd.heap.size:=Iw _
      have g0:=fun x:az wd.heap.size wd=>ag x.h hlc e1
      clear e1
      refine ak 4 0 _ _ _ (by kernel_rfl) ?_
      simp only[Ix,IC,Iy,IA]
      repeat (go_big_quiet_step (fail))
      refine wpQuiet_nil ?_
      clear g0
      refine ap rfl rfl (fun K hK=>?_)
      go_simp
      refine (detN _ _ wd).mono ?_
      rintro e w3 ⟨ud,rfl,hud,hb3⟩
      obtain⟨pd,cd,rfl,-⟩:=id hud.form
      refine hK _ _ ⟨⟨_,(hb3).mono hz⟩,rfl⟩ ?_
      clear hK K
      try simp only[Act.put,It,Is,Ir,Iq,Iu,Iv]
      have hm4:=aj w3 (.cells #[.slice pu (cB fa fb n 0).length cu,.slice pd 1 cd] 22)
      have hB4:=LK hb3 hm4
      refine ap rfl rfl (fun K hK=>?_)
      go_simp
      refine hK _ _ ⟨⟨_,(hB4).mono hz⟩,rfl⟩ ?_
      clear hK K
      try simp only[Act.put,It,Is,Ir,Iq,Iu,Iv]
      have hU3:=HUC.out.below hb3
      have HL:=Ip (show i6 (w3.alloc (.cells #[.slice pu (cB fa fb n 0).length cu,.slice pd 1 cd] 22)) w3.heap.size (.slice (some ⟨w3.heap.size,0,none⟩) 2 2) [cB fa fb n 0,[⟨#[49]⟩]] from
       Bv (us:=[.slice pu (cB fa fb n 0).length cu,.slice pd 1 cd]) w3.heap.size rfl (fun j hj hj'=>by
        match j,hj with
        | 0,_=>exact hU3
        | 1,_=>exact hud) (Iw _) (by simp))
      have H8:=Ip (H8.out.below hB4)
      have H9:=Ip (H9.out.below hB4)
      have HB4:=Ip (LK HB2.out hB4)
      have HWZ:=Ip (show w.heap.size<=w3.heap.size by have:=HB2.out.size;have:=hb3.size;omega)
      have hg3:w3.heap.size<=(w3.alloc (.cells #[.slice pu (cB fa fb n 0).length cu,.slice pd 1 cd] 22)).heap.size:=hm4.size
      clear hb3 hm4 hB4 hU3 hud HUC HB2
      refine ak 1 6 _ _ _ (by kernel_rfl) ?_
      simp only[Ix,IC,Iy,IA]
      repeat (go_big_quiet_step (fail))
      refine wpQuiet_nil ?_
      refine aE ?_
      generalize w3.alloc (.cells #[.slice pu (cB fa fb n 0).length cu,.slice pd 1 cd] 22)=w4 at *
      by_cases hn0:n=0
      ·subst hn0
       have HE:=Ip (show eZ fa fb 0=[cB fa fb 0 0,[⟨#[49]⟩]] by unfold eZ;rw[if_pos rfl];rfl)
       go_wp2
       go_ret
       exact⟨_,rfl,by rw[HE.out];exact HL.out.isPS,HB4.out⟩
      ·have hn0I:(0:Int)<(n:Int):=by omega
       have HE:=Ip (show eZ fa fb n=[cB fa fb n 0,[⟨#[49]⟩]]++[ub fa fb n (n+1),lm fa fb n (n+1)] by unfold eZ;rw[if_neg hn0])
       have hm5:=aj w4 (.cells #[.slice p8 (ub fa fb n (n+1)).length c8,.slice p9 (lm fa fb n (n+1)).length c9] 22)
       have hown:=HL.out.below hm5
       have hcl:=sC w4 [.slice p8 (ub fa fb n (n+1)).length c8,.slice p9 (lm fa fb n (n+1)).length c9] 22
       have h8:=H8.out.below hm5
       have h9:=H9.out.below hm5
       have hgg:w3.heap.size<=(w4.alloc (.cells #[.slice p8 (ub fa fb n (n+1)).length c8,.slice p9 (lm fa fb n (n+1)).length c9] 22)).heap.size:=by have:=hm5.size;omega
       have HM5:=Ip hm5
       clear hm5 hn0
       go_wp2_with (at_builtin;refine js 158 Tryz.underlying158 rfl (.tmp 134) (.tmp 137) rfl w3.heap.size _ [cB fa fb n 0,[⟨#[49]⟩]] [ub fa fb n (n+1),lm fa fb n (n+1)] [.slice p8 (ub fa fb n (n+1)).length c8,.slice p9 (lm fa fb n (n+1)).length c9] w4.heap.size 0 2 2 rfl hown rfl rfl (by simp) rfl hcl (fun j hj hj'=>by
        match j,hj with
        | 0,_=>exact h8
        | 1,_=>exact h9) (by simp) hgg ?_)
       intro v' w5 hw5 hb5 _ _
       have HW:=Ip hw5.isPS
       have HBF:=Ip (hb5 _ _ (LK HB4.out HM5.out) HWZ.out)
       clear hw5 hb5 hown hcl h8 h9
       go_wp2
       go_ret
       exact⟨_,rfl,by rw[HE.out];exact HW.out,HBF.out⟩
structure tz (l:List ByteArray):Prop where
 ex:∃ zs,dY l=.ok zs/\fO zs/\SzL 300 zs/\kD zs=true
def CJ (l:List ByteArray) (x y:Rat):Int:=match dY l with
 | .ok zs=>dU zs x-dU zs y
 | .error _=>0
def l9 (ls:List (List ByteArray)) (x y:Rat):Bool:=ls.all fun l=>decide (CJ l x y<=0)
theorem tz.pos {l:List ByteArray} (h:tz l):0<l.length:=by
 obtain⟨zs,h1,h2,-⟩:=h.ex;have:=qD h1
 cases h2<;>simp at this<;>omega
theorem uQ (fa fb:List ByteArray) {n:Nat} (hn:n<=1):(eZ fa fb n).length<=4:=by
 unfold eZ
 split<;>simp
theorem xJ (v:Value) (a b:List ByteArray) (lo hi:ByteArray) (n:Nat) (x y:Rat) (w:World) (hF:IsF w v a b) (hG:Gx w) (hck:aC a b=true) (hn:max a.length b.length=n+1) (hn1:n<=1)
  (hlo:da a b lo=true) (hhi:da a b hi=true) (hr:fV [lo,hi]=.ok [x,y]) (hsx:Sz 2000 (rt x)) (hsy:Sz 2000 (rt y)) (hxy:eL x y<=0) (hall:∀ l∈eZ a b n,tz l) :
  Calls Tryz.prog 84 #[v,.string lo,.string hi] w fun e w'=>e=.returned (.bool (l9 (eZ a b n) x y))/\Below w.heap.size w w':=by
 obtain⟨ob1,ob7,oa1,oa7,-,-,-⟩:=bv hck;obtain⟨p,c,q,d,rfl,hfa,hfb⟩:=id hF.ex;go_enter Tryz.func84,Tryz.ntmps84;go_upto_region 1 with fail
 have cc:=aG w (.slice p a.length c) (.slice q b.length d);have m1:=aj w (.cells #[.slice p a.length c,.slice q b.length d] 24);have z1:=size_alloc w (.cells #[.slice p a.length c,.slice q b.length d] 24);generalize w.alloc (.cells #[.slice p a.length c,.slice q b.length d] 24)=w1 at *
 have H1:=Ip (lM _ a b lo w1 (hF.below m1) ob1 (by omega) (by omega) (hG.below m1).g);have H2:=Ip (fun wx (h:Below w1.heap.size w1 wx)=>lM _ a b hi wx ((hF.below m1).below h) ob1 (by omega) (by omega) ((hG.below m1).below h).g);have HBD:=Ip (fun wx (h:Below w1.heap.size w1 wx)=>uP _ a b n wx ((hF.below m1).below h) oa1 ob1 hn hn1 ((hG.below m1).below h).g);have HG:=Ip (hG.below m1).g;have HALL:=Ip hall;have HR:=Ip hr;have hln:=uQ a b hn1;rw[hlo] at H1;rw[hhi] at H2;have c0:=cc.1;have c1:=cc.2;have hlt:w.heap.size<w1.heap.size:=by omega
 have M1:=Ip m1;clear cc m1 z1 hF hG hfa hfb hck ob7 oa1 oa7 ob1 hn hn1 hlo hhi hr hall;go_wp2_with fail
 refine H1.out.mono ?_;rintro e w2 ⟨rfl,hb2⟩;have d0:=ag hb2 hlt c0;have d1:=ag hb2 hlt c1;clear c0 c1;go_wp2_with fail
 refine (H2.out w2 hb2).mono ?_;rintro e w3 ⟨rfl,hb3⟩;have hB3:=LK hb2 hb3;have e0:=ag hb3 (show w.heap.size<w2.heap.size by have:=hb2.size;omega) d0;have e1:=ag hb3 (show w.heap.size<w2.heap.size by have:=hb2.size;omega) d1;clear d0 d1;go_wp2_with fail
 refine (HBD.out w3 hB3).mono ?_;rintro e w4 ⟨u,rfl,hu,hb4⟩;have hB4:=LK hB3 hb4;obtain⟨ls,hls⟩:∃ ls,ls=eZ a b n:=⟨_,rfl⟩;rw[<-hls] at hu HALL hln;have HLS:=Ip hls;obtain⟨pu,cu,rfl,-⟩:=id hu.form;have HU:=Ip hu;have HG4:=Ip (HG.out.below hB4);have HB4:=Ip (LK M1.out hB4);clear hls hu e0 e1 hb2 hb3 hb4 hB3 hB4 H1 H2 HBD HG M1 hlt;go_wp2;rename World=>wl;go_loopw [24] (fun s24 wr=>∃ i:Nat,s24=.int .i64 i/\i<=ls.length/\Hid (l9 (ls.take i) x y=true)/\Below wl.heap.size wl wr) (fun s24 _=>ls.length-(intOf s24).toNat)
 case atStart=>exact⟨0,rfl,IF _,rfl,LN _ _⟩
 case round =>
  obtain⟨i,rfl,hin,hcert,hbr⟩:=hrel;by_cases hil:i<ls.length
  ·obtain⟨bc,oc,uc,rfl,hlc,hcc,huc⟩:=HU.out.get (i:=i) hil;have hok:=HALL.out _ (IS hil)
   have HCT:=Ip (show l9 (ls.take (i+1)) x y=decide (CJ ls[i] x y<=0) by
    have h:=hcert.out;unfold l9 at h |-
    rw[<-IL hil,JW,h];simp)
   have HCF:=Ip (show ¬ CJ ls[i] x y<=0->l9 ls x y=false from fun h=>by
    unfold l9;rw[Kp]
    exact⟨ls[i],IS hil,by simpa using h⟩)
   generalize ls[i]=l at huc hok HCT HCF;have hcc:=ag hbr hlc hcc;obtain⟨pl,cl,rfl,-⟩:=id huc.form;have hpos:=hok.pos;have hlz:((l.length:Int) == 0)=false:=beq_eq_false_iff_ne.2 (by omega);obtain⟨zs,z1,z2,z3,z4⟩:=hok.ex;have HCN:=Ip (Gu _ lo hi l zs x y wr (huc.below hbr) (HG4.out.below hbr) z1 z2 z3 z4 HR.out hsx hsy hxy);obtain⟨cn,hcn⟩:∃ z,z=CJ l x y:=⟨_,rfl⟩;rw[show dU zs x-dU zs y=cn by rw[hcn];unfold CJ;rw[z1]] at HCN;rw[<-hcn] at HCT HCF;clear z1 z2 z3 z4 hok huc hcn hpos hcert;go_wp2_with fail
   refine HCN.out.mono ?_;rintro e w5 ⟨rfl,hb5⟩;have hB5:=LK hbr hb5;have HBN:=Ip (LK HB4.out hB5);by_cases hc0:cn<=0
   ·have hd:decide (0<cn)=false:=decide_eq_false (by omega);have HC:=Ip (show l9 (ls.take (i+1)) x y=true by rw[HCT.out];exact decide_eq_true hc0);clear hc0 HCF HCT hb5 hbr hcc HCN;go_wp2;go_roundw;case rel=>exact⟨i+1,by go_num,by omega,HC.out,hB5⟩
    case measure=>simp[intOf]<;>omega
   ·have hd:decide (0<cn)=true:=decide_eq_true (by omega);have HC:=Ip (HCF.out (by omega));clear hc0 HCF HCT hb5 hbr hcc HCN hB5;go_wp2;refine LM (v:=.bool false) (by simp[results,Tryz.results84,go_sem]) rfl ⟨by rw[<-HLS.out,HC.out],HBN.out⟩
  ·obtain rfl:i=ls.length:=by omega
   have HC:=Ip (show l9 ls x y=true by have h:=hcert.out;rwa [IZ] at h);have HBN:=Ip (LK HB4.out hbr);clear hcert hil hbr;go_wp2;refine LM (v:=.bool true) (by simp[results,Tryz.results84,go_sem]) rfl ⟨by rw[<-HLS.out,HC.out],HBN.out⟩
def szQ (q:Rat):Bool:=decide (q.num.natAbs<10 ^ 10)&&decide (q.den<10 ^ 10)
theorem uB {q:Rat} (h:szQ q=true):Sz 10 (rt q):=by
 unfold szQ at h;simp only[IR,decide_eq_true_eq] at h;exact⟨h.1,dQ _,h.2⟩
def Ey:List CQ->Bool
 | [c]=>decide (c≠⟨0,0⟩)
 | [_,c]=>decide (c≠⟨0,0⟩)
 | _=>false
theorem BQ {zs:List CQ} (h:Ey zs=true):fO zs:=by
 match zs,h with
 | [c],h=>exact .one c (of_decide_eq_true h)
 | [a,c],h=>exact .two a c (of_decide_eq_true h)
def Hb (l:List ByteArray):Bool:=match dY l with
 | .ok zs=>Ey zs&&(zs.all fun z=>szQ z.re&&szQ z.im)&&kD zs
 | .error _=>false
theorem FB {l:List ByteArray} (h:Hb l=true):tz l:=by
 unfold Hb at h
 split at h
 case h_1 zs hz =>
  simp only[IR,I5] at h;exact⟨zs,hz,BQ h.1.1,fun z hm=>⟨(uB (h.1.2 z hm).1).mono (by decide),(uB (h.1.2 z hm).2).mono (by decide)⟩,h.2⟩
 case h_2=>cases h
def ja (a b:List ByteArray) (lo hi:ByteArray) (n:Nat):Bool:=da a b lo&&da a b hi&&match fV [lo,hi] with
 | .ok [x,y]=>l9 (eZ a b n) x y
 | _=>false
def jz (a b:List ByteArray) (lo hi:ByteArray) (n:Nat):Bool:=match fV [lo,hi] with
 | .ok [x,y]=>szQ x&&szQ y&&decide (eL x y<=0)&&(eZ a b n).all Hb
 | _=>false
theorem j_ (v:Value) (a b:List ByteArray) (lo hi:ByteArray) (n:Nat) (w:World) (hF:IsF w v a b) (hG:Gx w) (hck:aC a b=true) (hn:max a.length b.length=n+1) (hn1:n<=1) (hok:jz a b lo hi n=true) :
  Calls Tryz.prog 84 #[v,.string lo,.string hi] w fun e w'=>e=.returned (.bool (ja a b lo hi n))/\Below w.heap.size w w':=by
 by_cases h1:da a b lo=true
 ·by_cases h2:da a b hi=true
  ·unfold jz at hok
   split at hok
   case h_1 x y hr =>
    simp only[IR,decide_eq_true_eq,I5] at hok;obtain⟨⟨⟨s1,s2⟩,s3⟩,s4⟩:=hok;have:=xJ v a b lo hi n x y w hF hG hck hn hn1 h1 h2 hr ((uB s1).mono (by decide)) ((uB s2).mono (by decide)) s3 (fun l hl=>FB (s4 l hl));unfold ja;rw[h1,h2,hr];exact this
   case h_2=>cases hok
  ·have:=rW v a b lo hi w hF hG hck (Or.inr (by simpa using h2));unfold ja;rw[show da a b hi=false by simpa using h2,Bool.and_false,Bool.false_and];exact this
 ·have:=rW v a b lo hi w hF hG hck (Or.inl (by simpa using h1));unfold ja;rw[show da a b lo=false by simpa using h1,Bool.false_and,Bool.false_and];exact this
theorem uH (v:Value) (a b:List ByteArray) (lo hi:ByteArray) (n:Nat) (w:World) (hF:IsF w v a b) (hG:Gx w) (hn:max a.length b.length=n+1) (hn1:n<=1) (hok:jz a b lo hi n=true) :
  Calls Tryz.prog 44 #[v,.string lo,.string hi] w fun e w'=>e=.returned (.tuple #[.bool (dj (ja a b lo hi n) a b lo hi).1,.int .i64 (dj (ja a b lo hi n) a b lo hi).2])/\Below w.heap.size w w' :=
 Cd (ja a b lo hi n) v a b lo hi w hF hG fun u wx hu hx hck _ _=>j_ u a b lo hi n wx hu hx hck hn hn1 hok
theorem zG:jz a8 a_ ⟨#[45,49,47,50]⟩ ⟨#[50]⟩ 1=true/\dj (ja a8 a_ ⟨#[45,49,47,50]⟩ ⟨#[50]⟩ 1) a8 a_ ⟨#[45,49,47,50]⟩ ⟨#[50]⟩=(true,0):=by decide +kernel
theorem zH:jz a8 a_ ⟨#[48]⟩ ⟨#[51]⟩ 1=true/\dj (ja a8 a_ ⟨#[48]⟩ ⟨#[51]⟩ 1) a8 a_ ⟨#[48]⟩ ⟨#[51]⟩=(false,0):=by decide +kernel
theorem zI:jz a8 a_ ⟨#[45,49]⟩ ⟨#[49]⟩ 1=true/\ja a8 a_ ⟨#[45,49]⟩ ⟨#[49]⟩ 1=false:=by decide +kernel
theorem zJ:jz a8 a_ ⟨#[48]⟩ ⟨#[49]⟩ 1=true/\ja a8 a_ ⟨#[48]⟩ ⟨#[49]⟩ 1=true:=by decide +kernel
theorem zK:jz a8 a_ ⟨#[49]⟩ ⟨#[50]⟩ 1=true/\ja a8 a_ ⟨#[49]⟩ ⟨#[50]⟩ 1=true:=by decide +kernel
theorem zL:jz a8 a_ ⟨#[49]⟩ ⟨#[51]⟩ 1=true/\ja a8 a_ ⟨#[49]⟩ ⟨#[51]⟩ 1=false:=by decide +kernel
def jf:List ByteArray:=[⟨#[45,50]⟩,⟨#[45,49]⟩,⟨#[48]⟩,⟨#[49]⟩,⟨#[50]⟩,⟨#[51]⟩]
theorem Ft:jC a8 a_ jf=0:=by decide +kernel
theorem De:∀ i,i<5->jZ (aD jf i) (aD jf (i+1))=-1:=by decide +kernel
theorem yf:da a8 a_ ⟨#[49]⟩=true:=by decide +kernel
theorem fR:aC a8 a_=true:=by decide +kernel
structure tB (w:World) (g:Nat) (p:Option Addr) (c:Nat) (q:Option Addr) (d b o cl:Nat):Prop where
 f0:w.cell? ⟨g,0,none⟩=some (.slice p 2 c)
 f1:w.cell? ⟨g,1,none⟩=some (.slice q 2 d)
 m:w.heap[g+1]?=some (.cells #[.string ⟨#[]⟩,.string ⟨#[]⟩] 71 (0,0))
 F:IsF w (.agg #[.slice p 2 c,.slice q 2 d]) a8 a_
 L:IsS w (.slice (some ⟨b,o,none⟩) 6 cl) jf
 G:Gx w
theorem tB.below {w w':World}{g:Nat}{p:Option Addr}{c:Nat}{q:Option Addr}{d b o cl:Nat} (h:tB w g p c q d b o cl) (hb:Below w.heap.size w w'):tB w' g p c q d b o cl:=by
 have hg:g+1<w.heap.size:=(ID.1 h.m).1;exact⟨ag hb (by omega) h.f0,ag hb (by omega) h.f1,(hb.block _ hg).trans h.m,h.F.below hb,h.L.below hb,h.G.below hb⟩
theorem tB.cells {w:World}{g:Nat}{p:Option Addr}{c:Nat}{q:Option Addr}{d b o cl:Nat} (h:tB w g p c q d b o cl):g+1<w.heap.size/\b<w.heap.size/\∀ i,i<6->w.cell? ⟨b,o+i,none⟩=some (.string (aD jf i)):=by
 obtain⟨b',o',e,hlt,hc⟩:=h.L.all (by decide);obtain⟨rfl,rfl⟩:b=b'/\o=o':=by simpa using e
 exact⟨(ID.1 h.m).1,hlt,fun i hi=>hc i hi⟩
theorem y_ (v vl:Value) (w:World) (hF:IsF w v a8 a_) (hl:IsS w vl jf) (hG:Gx w) :
  Calls Tryz.prog 45 #[v,vl,.int .i64 3] w fun e w'=>e=.returned (.tuple #[.agg #[.string ⟨#[48]⟩,.string ⟨#[50]⟩],.int .i64 0])/\Below w.heap.size w w':=by
 obtain⟨p,c,q,d,rfl,-,-⟩:=id hF.ex;rw[show a8.length=2 from rfl,show a_.length=2 from rfl] at hF |-;obtain⟨pl,cl,rfl,-⟩:=id hl.form;obtain⟨b,o,rfl,hbw,-⟩:=hl.all (by decide);rw[show jf.length=6 from rfl] at hl |-;go_enter Tryz.func45,Tryz.ntmps45;go_upto_region 1 with fail
 have cc:=aG w (.slice p 2 c) (.slice q 2 d);have m1:=aj w (.cells #[.slice p 2 c,.slice q 2 d] 24);have z1:=size_alloc w (.cells #[.slice p 2 c,.slice q 2 d] 24);generalize w.alloc (.cells #[.slice p 2 c,.slice q 2 d] 24)=w1 at *
 have c0:=cc.1;have c1:=cc.2;have m2:=aj w1 (.cells #[.string ⟨#[]⟩,.string ⟨#[]⟩] 71);have r2:=heap_alloc_new w1 (.cells #[.string ⟨#[]⟩,.string ⟨#[]⟩] 71 (0,0));generalize w1.alloc (.cells #[.string ⟨#[]⟩,.string ⟨#[]⟩] 71)=w2 at *
 rw[z1] at r2;have hB2:=LK m1 m2;have hP:tB w2 w.heap.size p c q d b o cl:=⟨ag m2 (by omega) c0,ag m2 (by omega) c1,r2,hF.below hB2,hl.below hB2,hG.below hB2⟩;obtain⟨g,hg⟩:∃ g,g=w.heap.size:=⟨_,rfl⟩;rw[<-hg] at hP hbw |-;have HB2:=Ip hB2;have HGW:=Ip hg;clear cc m1 z1 c0 c1 m2 r2 hB2 hF hl hG hg;have HGA:=Ip (GR _ _ a8 a_ jf w2 hP.F hP.L hP.G);rw[Ft] at HGA;have HP:=Ip hP;have q0:=hP.f0;have q1:=hP.f1;clear hP;go_wp2_with fail
 refine HGA.out.mono ?_;rintro e w3 ⟨rfl,hb3⟩;have HP:=Ip (HP.out.below hb3);have HB3:=Ip (LK HB2.out hb3);clear hb3 HGA q0 q1;go_wp2;go_loopw [9] (fun s9 wr=>∃ (i:Nat) (z:Int),s9=.int .i64 z/\z=(i:Int)+1/\i<=5/\tB wr g p c q d b o cl/\Below w.heap.size w wr) (fun s9 _=>6-(intOf s9).toNat)
 case atStart=>exact⟨0,_,rfl,rfl,by omega,HP.out,HB3.out⟩
 case round =>
  clear HP HB3;obtain⟨i,z,rfl,hz,hi5,hP,hbr⟩:=hrel;by_cases hi:i<5
  ·subst hz;have hcm:=De i hi;obtain⟨hgw,hltb,hcs⟩:=hP.cells;have hx:=hcs i (by omega);have hy:=hcs (i+1) (by omega);have HC:=Ip (fun wx (h:Below wr.heap.size wr wx)=>kY (aD jf i) (aD jf (i+1)) wx (hP.G.below h).g);rw[hcm] at HC;generalize aD jf i=tx at hx HC;generalize aD jf (i+1)=ty at hy HC;have e1:IntKind.i64.wrap ((i:Int)+1)=(i:Int)+1:=IntWalk.i64_in _ (by omega);have e2:IntKind.i64.wrap ((i:Int)+1-1)=(i:Int):=by rw[show (i:Int)+1-1=(i:Int) by omega];exact IntWalk.i64_in _ (by omega)
   have hi1:(i:Int)+1<6:=by omega
   have hi2:(i:Int)<6:=by omega
   have HP:=Ip hP;clear hcs hcm hP;go_upto_region 7 with fail
   have m4:Below wr.heap.size wr wr.drew:=(LN _ _).drew;refine av (fun w'=>∃ x:az wr.heap.size wr.drew,w'=x.w) (fun i=>i == 9) (by kernel_rfl) (by kernel_rfl) ⟨⟨_,LN _ _⟩,rfl⟩ ?_;have hz:wr.heap.size<=wr.drew.heap.size:=m4.size;have f0:=fun x:az wr.heap.size wr.drew=>ag (m4.trans x.h) hltb hx;have f1:=fun x:az wr.heap.size wr.drew=>ag (m4.trans x.h) hltb hy;have HC:=Ip (HC.out wr.drew m4);have HP:=Ip (HP.out.below m4);have HB:=Ip (LK hbr m4);clear m4 hx hy hbr;generalize wr.drew=wd at *
   refine ak 9 0 _ _ _ (by kernel_rfl) ?_;simp only[Ix,IC,Iy,IA];repeat (go_big_quiet_step (fail))
   refine wpQuiet_nil ?_;refine ap rfl rfl (fun K hK=>?_);go_simp;refine HC.out.mono ?_;rintro e w5 ⟨rfl,hb5⟩;refine hK _ _ ⟨⟨_,hb5.mono hz⟩,rfl⟩ ?_;clear hK K;try simp only[Act.put,It,Is,Ir,Iq,Iu,Iv]
   refine ak 1 10 _ _ _ (by kernel_rfl) ?_;simp only[Ix,IC,Iy,IA];repeat (go_big_quiet_step (fail))
   refine wpQuiet_nil ?_;refine aE ?_;have HP:=Ip (HP.out.below hb5);have HB:=Ip (LK HB.out hb5);clear f0 f1 HC hb5 hz e2;go_wp2;go_roundw;case rel=>exact⟨i+1,_,rfl,by go_num,by omega,HP.out,HB.out⟩
   case measure=>simp[intOf]<;>omega
  ·obtain rfl:i=5:=by omega
   obtain rfl:z=6:=by omega
   have HP:=Ip hP;have HB:=Ip hbr;obtain⟨hgw,hltb,hcs⟩:=hP.cells;have k0:=hP.f0;have k1:=hP.f1;have x3:wr.cell? ⟨b,o+3,none⟩=some (.string ⟨#[49]⟩):=hcs 3 (by omega);have HHO:=Ip (fun wx (h:Below wr.heap.size wr wx)=>lM _ a8 a_ ⟨#[49]⟩ wx (hP.F.below h) (by decide) (by decide) (by decide) (hP.G.below h).g);rw[yf] at HHO;clear hz hi hi5 hP hbr hcs;go_upto_region 11 with fail
   have m4:Below wr.heap.size wr wr.drew:=(LN _ _).drew;refine av (fun w'=>∃ x:az wr.heap.size wr.drew,w'=x.w) (fun i=>i == 5) (by kernel_rfl) (by kernel_rfl) ⟨⟨_,LN _ _⟩,rfl⟩ ?_;have hz:wr.heap.size<=wr.drew.heap.size:=m4.size;have f0:=fun x:az wr.heap.size wr.drew=>ag (m4.trans x.h) (show g<wr.heap.size by omega) k0;have f1:=fun x:az wr.heap.size wr.drew=>ag (m4.trans x.h) (show g<wr.heap.size by omega) k1;have f2:=fun x:az wr.heap.size wr.drew=>ag (m4.trans x.h) hltb x3;have HH:=Ip (HHO.out wr.drew m4);have HP:=Ip (HP.out.below m4);have HB:=Ip (LK HB.out m4);clear m4 k0 k1 x3 HHO;generalize wr.drew=wd at *
   refine ak 5 0 _ _ _ (by kernel_rfl) ?_;simp only[Ix,IC,Iy,IA];repeat (go_big_quiet_step (fail))
   refine wpQuiet_nil ?_;refine ap rfl rfl (fun K hK=>?_);go_simp;refine HH.out.mono ?_;rintro e w5 ⟨rfl,hb5⟩;refine hK _ _ ⟨⟨_,hb5.mono hz⟩,rfl⟩ ?_;clear hK K;try simp only[Act.put,It,Is,Ir,Iq,Iu,Iv]
   refine ak 1 6 _ _ _ (by kernel_rfl) ?_;simp only[Ix,IC,Iy,IA];repeat (go_big_quiet_step (fail))
   refine wpQuiet_nil ?_;refine aE ?_;have HP:=Ip (HP.out.below hb5);have HB:=Ip (LK HB.out hb5);clear f0 f1 f2 HH hb5 hz hgw hltb;go_wp2;go_loopw [10] (fun s10 wr=>(s10=.int .i64 3\/s10=.int .i64 2)/\tB wr g p c q d b o cl/\Below w.heap.size w wr) (fun s10 _=>(intOf s10).toNat)
   case atStart=>exact⟨Or.inl rfl,HP.out,HB.out⟩
   case round =>
    clear HP HB;obtain⟨h10,hP,hbr⟩:=hrel;have HP:=Ip hP;have HB:=Ip hbr;obtain⟨hgw,hltb,hcs⟩:=hP.cells;have q0:=hP.f0;have q1:=hP.f1;have hltF:g<wr.heap.size:=by omega
    rcases h10 with rfl | rfl
    ·have r2:wr.cell? ⟨b,o+2,none⟩=some (.string ⟨#[48]⟩):=hcs 2 (by omega);have r3:wr.cell? ⟨b,o+3,none⟩=some (.string ⟨#[49]⟩):=hcs 3 (by omega);have k0:=fun y:bh wr=>ag y.h hltF q0;have k1:=fun y:bh wr=>ag y.h hltF q1;have xa:=fun y:bh wr=>ag y.h hltb r2;have xb:=fun y:bh wr=>ag y.h hltb r3
     have HN:=Ip (show nh wr 84 #[.agg #[.slice p 2 c,.slice q 2 d],.string ⟨#[48]⟩,.string ⟨#[49]⟩] ((.bool true)) from fun y=>bh.calls (by
      have:=j_ _ a8 a_ ⟨#[48]⟩ ⟨#[49]⟩ 1 y.w (HP.out.F.below y.h) (HP.out.G.below y.h) fR rfl (by decide) zJ.1;rw[zJ.2] at this
      exact this))
     clear hP hbr hcs q0 q1 r2 r3 hgw;go_upto_region 14 with fail
     refine dB (by kernel_rfl) (by kernel_rfl) ?_;repeat (go_big_quiet_step ((go_at_call 84;exact HN.out _)))
     refine wpQuiet_nil ?_;rintro _ ⟨⟨wN,hbN⟩,rfl⟩;clear HN k0 k1 xa xb;have HPN:=Ip (HP.out.below hbN);have HBN:=Ip (LK HB.out hbN);clear hbN;go_wp2;go_roundw;case rel=>exact⟨Or.inr rfl,HPN.out,HBN.out⟩
     case measure=>simp[intOf]<;>omega
    ·have r2:wr.cell? ⟨b,o+1,none⟩=some (.string ⟨#[45,49]⟩):=hcs 1 (by omega);have r3:wr.cell? ⟨b,o+3,none⟩=some (.string ⟨#[49]⟩):=hcs 3 (by omega);have k0:=fun y:bh wr=>ag y.h hltF q0;have k1:=fun y:bh wr=>ag y.h hltF q1;have xa:=fun y:bh wr=>ag y.h hltb r2;have xb:=fun y:bh wr=>ag y.h hltb r3
     have HN:=Ip (show nh wr 84 #[.agg #[.slice p 2 c,.slice q 2 d],.string ⟨#[45,49]⟩,.string ⟨#[49]⟩] ((.bool false)) from fun y=>bh.calls (by
      have:=j_ _ a8 a_ ⟨#[45,49]⟩ ⟨#[49]⟩ 1 y.w (HP.out.F.below y.h) (HP.out.G.below y.h) fR rfl (by decide) zI.1;rw[zI.2] at this
      exact this))
     clear hP hbr hcs q0 q1 r2 r3 hgw;go_upto_region 14 with fail
     refine dB (by kernel_rfl) (by kernel_rfl) ?_;repeat (go_big_quiet_step ((go_at_call 84;exact HN.out _)))
     refine wpQuiet_nil ?_;rintro _ ⟨⟨wN,hbN⟩,rfl⟩;clear HN k0 k1 xa xb;have HPN:=Ip (HP.out.below hbN);have HBN:=Ip (LK HB.out hbN);clear hbN;go_wp2;go_loopw [11] (fun s11 wr=>(s11=.int .i64 3\/s11=.int .i64 4)/\tB wr g p c q d b o cl/\Below w.heap.size w wr) (fun s11 _=>(5-intOf s11).toNat)
     case atStart=>exact⟨Or.inl rfl,HPN.out,HBN.out⟩
     case round =>
      clear HPN HBN HP HB;obtain⟨h11,hP,hbr⟩:=hrel;have HP:=Ip hP;have HB:=Ip hbr;obtain⟨hgw,hltb,hcs⟩:=hP.cells;have q0:=hP.f0;have q1:=hP.f1;have hltF:g<wr.heap.size:=by omega
      rcases h11 with rfl | rfl
      ·have r2:wr.cell? ⟨b,o+3,none⟩=some (.string ⟨#[49]⟩):=hcs 3 (by omega);have r3:wr.cell? ⟨b,o+4,none⟩=some (.string ⟨#[50]⟩):=hcs 4 (by omega);have k0:=fun y:bh wr=>ag y.h hltF q0;have k1:=fun y:bh wr=>ag y.h hltF q1;have xa:=fun y:bh wr=>ag y.h hltb r2;have xb:=fun y:bh wr=>ag y.h hltb r3
       have HN:=Ip (show nh wr 84 #[.agg #[.slice p 2 c,.slice q 2 d],.string ⟨#[49]⟩,.string ⟨#[50]⟩] ((.bool true)) from fun y=>bh.calls (by
        have:=j_ _ a8 a_ ⟨#[49]⟩ ⟨#[50]⟩ 1 y.w (HP.out.F.below y.h) (HP.out.G.below y.h) fR rfl (by decide) zK.1;rw[zK.2] at this
        exact this))
       clear hP hbr hcs q0 q1 r2 r3 hgw;go_upto_region 16 with fail
       refine dB (by kernel_rfl) (by kernel_rfl) ?_;repeat (go_big_quiet_step ((go_at_call 84;exact HN.out _)))
       refine wpQuiet_nil ?_;rintro _ ⟨⟨wN,hbN⟩,rfl⟩;clear HN k0 k1 xa xb;have HPN:=Ip (HP.out.below hbN);have HBN:=Ip (LK HB.out hbN);clear hbN;go_wp2;go_roundw;case rel=>exact⟨Or.inr rfl,HPN.out,HBN.out⟩
       case measure=>simp[intOf]<;>omega
      ·have r2:wr.cell? ⟨b,o+3,none⟩=some (.string ⟨#[49]⟩):=hcs 3 (by omega);have r3:wr.cell? ⟨b,o+5,none⟩=some (.string ⟨#[51]⟩):=hcs 5 (by omega);have k0:=fun y:bh wr=>ag y.h hltF q0;have k1:=fun y:bh wr=>ag y.h hltF q1;have xa:=fun y:bh wr=>ag y.h hltb r2;have xb:=fun y:bh wr=>ag y.h hltb r3
       have HN:=Ip (show nh wr 84 #[.agg #[.slice p 2 c,.slice q 2 d],.string ⟨#[49]⟩,.string ⟨#[51]⟩] ((.bool false)) from fun y=>bh.calls (by
        have:=j_ _ a8 a_ ⟨#[49]⟩ ⟨#[51]⟩ 1 y.w (HP.out.F.below y.h) (HP.out.G.below y.h) fR rfl (by decide) zL.1;rw[zL.2] at this
        exact this))
       clear hP hbr hcs q0 q1 r2 r3 hgw;go_upto_region 16 with fail
       refine dB (by kernel_rfl) (by kernel_rfl) ?_;repeat (go_big_quiet_step ((go_at_call 84;exact HN.out _)))
       refine wpQuiet_nil ?_;rintro _ ⟨⟨wN,hbN⟩,rfl⟩;clear HN k0 k1 xa xb;have HPN:=Ip (HP.out.below hbN);have HBN:=Ip (LK HB.out hbN);clear hbN;go_wp2;rename World=>wz;have hP:=HPN.out;obtain⟨hgw,hltb,hcs⟩:=hP.cells;have r2:wz.cell? ⟨b,o+2,none⟩=some (.string ⟨#[48]⟩):=hcs 2 (by omega);have r4:wz.cell? ⟨b,o+4,none⟩=some (.string ⟨#[50]⟩):=hcs 4 (by omega);have m4:Below wz.heap.size wz wz.drew:=(LN _ _).drew;have r2:=ag m4 hltb r2;have r4:=ag m4 hltb r4;have hM:=Ip ((m4.block _ hgw).trans hP.m);have HB:=Ip (LK HBN.out m4);have hgw:=Iz hgw m4.size;have hltb:=Iz hltb m4.size;have hne:b≠g+1:=by omega
       clear hP hcs HPN HBN m4;refine av (fun w'=>∃ x:Off (g+1) wz.drew,w'=x.w) (fun i=>i == 9) (by kernel_rfl) (by kernel_rfl) (Off.below (LN _ _)) ?_;generalize wz.drew=wd at *
       have f0:=fun x:Off (g+1) wd=>x.cell hltb hne r2;have f1:=fun x:Off (g+1) wd=>x.cell hltb hne r4;refine ak 9 0 _ _ _ (by kernel_rfl) ?_;simp only[Ix,IC,Iy,IA];repeat (go_big_quiet_step (fail))
       refine wpQuiet_nil ?_;clear f0 f1 r2 r4;obtain⟨e0,e1⟩:wd.cell? ⟨g+1,0,none⟩=some (.string ⟨#[]⟩)/\wd.cell? ⟨g+1,1,none⟩=some (.string ⟨#[]⟩):=⟨by rw[au hM.out 0];rfl,by rw[au hM.out 1];rfl⟩;have f0:=aU hM.out 0;have f1:=aU hM.out 1;refine ap rfl rfl (fun K hK=>?_);go_simp;refine hK undef _ (Off.set (Off.set (Off.below (LN _ _)) 0 _) 1 _) ?_;clear hK K e0 e1 f0 f1;try simp only[Act.put,It,Is,Ir,Iq,Iu,Iv]
       refine ak 1 10 _ _ _ (by kernel_rfl) ?_;simp only[Ix,IC,Iy,IA];repeat (go_big_quiet_step (fail))
       refine wpQuiet_nil ?_;refine aE ?_;have hS:=el hM.out (.string ⟨#[48]⟩) (.string ⟨#[50]⟩);have y0:=au hS 0;have y1:=au hS 1;have hBF:=Ip ((HB.out.setCell (p:=⟨g+1,0,none⟩) (by have:=HGW.out;show w.heap.size<=g+1;omega) (.string ⟨#[48]⟩)).setCell (p:=⟨g+1,1,none⟩) (by have:=HGW.out;show w.heap.size<=g+1;omega) (.string ⟨#[50]⟩));clear hM hS HB;generalize (wd.setCell ⟨g+1,0,none⟩ (.string ⟨#[48]⟩)).setCell ⟨g+1,1,none⟩ (.string ⟨#[50]⟩)=we at *
       go_wp2;refine LM (v:=.tuple #[.agg #[.string ⟨#[48]⟩,.string ⟨#[50]⟩],.int .i64 0]) (by simp at y0 y1;simp[results,Tryz.results45,go_sem,y0,y1]) rfl ⟨rfl,hBF.out⟩
end Go.Proofs.YtlhpcoelfhjomaaGreatDoor
