/- L -/
import Derived.Test.YtgakllaobooabaaGreatDoorXReg
import Derived.Test.YtgakllaobooabaaGreatDoorXPM2
import Derived.Test.YtgakllaobooabaaGreatDoorXLE2
import Derived.Test.YtgakllaobooabaaGreatDoorXB
set_option linter.all false
set_option maxRecDepth 100000
set_option maxHeartbeats 8000000
namespace Go.Proofs.YtgakllaobooabaaGreatDoor
open Go.RowKit Dg
theorem rG (v:Value) (a b:List ByteArray) (w:World) (hF:IsF w v a b) (hG:Gx w) :
  Calls Tryz.prog 4 #[v] w fun e w'=>e=.returned (.tuple #[.string (bG a b).1,.int .i64 (bG a b).2])/\Below w.heap.size w w':=by
 obtain⟨p,c,q,d,rfl,hfa,hfb⟩:=id hF.ex;go_enter Tryz.func4,Tryz.ntmps4;go_upto_region 1 with fail
 have cc:=ar w (.slice p a.length c) (.slice q b.length d);have m1:=ac w (.cells #[.slice p a.length c,.slice q b.length d] 24);have zz:=size_alloc w (.cells #[.slice p a.length c,.slice q b.length d] 24);generalize w.alloc (.cells #[.slice p a.length c,.slice q b.length d] 24)=w1 at *
 have HCK:=At (dC _ a b w1 (hF.below m1) (hG.below m1));have HA:=At (hfa.below m1);have HB:=At (hfb.below m1);have HG:=At (hG.below m1);have c0:=cc.1;have c1:=cc.2;have hlt:w.heap.size<w1.heap.size:=by omega
 have M1:=At m1;clear hfa hfb cc zz m1 hF hG;by_cases hck:aq a b=true
 ·have HT:=At (show bG a b=if (aK b).isSome=true then (dM (max a.length b.length) (cS b (max a.length b.length)) (cS a (max a.length b.length)) ⟨#[48]⟩,0) else (⟨#[]⟩,31) by unfold bG;rw[if_pos hck]);have hce:au a b=0:=by unfold au;rw[if_pos hck]
  rw[hce] at HCK;obtain⟨ob1,ob7,oa1,oa7,oac,obc,ohd⟩:=aN hck;clear hce;go_wp2_with fail
  refine HCK.out.mono ?_;rintro e w2 ⟨rfl,hb2⟩;have d0:=aa hb2 hlt c0;have d1:=aa hb2 hlt c1;have HA2:=At (HA.out.below hb2);have HB2:=At (HB.out.below hb2);have HG2:=At (HG.out.below hb2);have M2:=At (M1.out.trans (hb2.mono M1.out.size));have hlt2:w.heap.size<w2.heap.size:=AD hlt hb2.size;clear c0 c1 HA HB HG HCK M1 hb2 hlt;clear oac obc ohd hck;have HS:=At (ju _ b w2 HB2.out ob1 (by omega) HG2.out.g)
  cases hst:(aK b).isSome with
  | false =>
   rw[hst] at HS HT;clear hst;go_wp2_with fail
   refine HS.out.mono ?_;rintro e w3 ⟨rfl,hb3⟩;have HE:=At (show bG a b=(⟨#[]⟩,31) from HT.out);go_wp2;refine Du (v:=.tuple #[.string ⟨#[]⟩,.int .i64 31]) (by simp[results,Tryz.results4,go_sem]) rfl ⟨by rw[HE.out],M2.out.trans (hb3.mono M2.out.size)⟩
  | true =>
   rw[hst] at HS HT;clear hst;go_wp2_with fail
   refine HS.out.mono ?_;rintro e w3 ⟨rfl,hb3⟩;have e0:=aa hb3 hlt2 d0;have e1:=aa hb3 hlt2 d1;have hlt3:w.heap.size<w3.heap.size:=AD hlt2 hb3.size;have HA3:=At (HA2.out.below hb3);have HB3:=At (HB2.out.below hb3);have HG3:=At (HG2.out.below hb3);have M3:=At (M2.out.trans (hb3.mono M2.out.size));clear d0 d1 hlt2 HA2 HB2 HG2 M2 hb3 HS;obtain⟨n,hn⟩:∃ n,n=max a.length b.length:=⟨_,rfl⟩;have hmax:max (a.length:Int) (b.length:Int)=(n:Int):=by rw[hn];omega
   have hn7:n<=7:=by omega
   have hn1:1<=n:=by omega
   have HT:=At (show bG a b=(dM n (cS b n) (cS a n) ⟨#[48]⟩,0) by rw[hn];exact HT.out);have HPB:=At (show (cS b n).length=n by rw[fG];omega);have HPA:=At (show (cS a n).length=n by rw[fG];omega);clear hn;go_upto_region 7 with fail
   clear hmax;have m4:Below w3.heap.size w3 w3.drew:=(Dv _ _).drew;refine ai (fun w'=>∃ x:ax w3.drew.heap.size w3.drew,w'=x.w) (fun i=>i == 3||i == 7) (by kernel_rfl) (by kernel_rfl) ⟨⟨_,Dv _ _⟩,rfl⟩ ?_;have d0:=aa m4 hlt3 e0;have d1:=aa m4 hlt3 e1;have hlt4:w.heap.size<w3.drew.heap.size:=by have:=m4.size;omega
   have HA4:=At (HA3.out.below m4);have HB4:=At (HB3.out.below m4);have HG4:=At (HG3.out.below m4);have M4:=At (M3.out.trans (m4.mono M3.out.size));clear e0 e1 hlt3 HA3 HB3 HG3 M3 m4;generalize w3.drew=wd at *
   have hz:wd.heap.size<=wd.heap.size:=AA _;have g0:=fun x:ax wd.heap.size wd=>aa x.h hlt4 d0;have g1:=fun x:ax wd.heap.size wd=>aa x.h hlt4 d1;clear d0 d1;refine ae 3 0 _ _ _ (by kernel_rfl) ?_;simp only[AC,AG,AB,AF];repeat (go_big_quiet_step (fail))
   refine wpQuiet_nil ?_;refine af rfl rfl (fun K hK=>?_);go_simp;refine (kw _ b n wd HB4.out ob1 (by omega) (by omega)).mono ?_;rintro e w5 ⟨u1,rfl,hu1,hb5⟩;refine hK _ _ ⟨⟨_,hb5.mono hz⟩,rfl⟩ ?_;clear hK K;try simp only[Act.put,Ax,Aw,Av,Au,Ay,Az]
   refine ae 3 4 _ _ _ (by kernel_rfl) ?_;simp only[AC,AG,AB,AF];repeat (go_big_quiet_step (fail))
   refine wpQuiet_nil ?_;refine af rfl rfl (fun K hK=>?_);go_simp;refine (kw _ a n w5 (HA4.out.below hb5) oa1 (by omega) (by omega)).mono ?_;rintro e w6 ⟨u2,rfl,hu2,hb6⟩;have hB6:=hb5.trans (hb6.mono hb5.size);refine hK _ _ ⟨⟨_,hB6.mono hz⟩,rfl⟩ ?_;clear hK K;try simp only[Act.put,Ax,Aw,Av,Au,Ay,Az]
   refine ae 2 8 _ _ _ (by kernel_rfl) ?_;simp only[AC,AG,AB,AF];repeat (go_big_quiet_step (fail))
   refine wpQuiet_nil ?_;refine av ?_;have HU1:=At (hu1.isS.below hb6);have HU2:=At hu2.isS;have M6:=At (M4.out.trans (hB6.mono M4.out.size));have HG6:=At (HG4.out.below hB6);clear hu1 hu2 hb5 hb6 hB6 g0 g1 HA4 HB4 HG4 M4 hlt4 hz;go_wp2;go_loopw [6,7,8,9] (fun s6 s7 s8 s9 wr=>∃ (k:Nat) (z:Int) (la lb:List ByteArray) (e:ByteArray),s9=.int .i64 z/\z=(k:Int)-1/\k<=n/\IsS wr s6 la/\IsS wr s7 lb/\la.length=k/\lb.length=k/\s8=.string e/\Below w.heap.size w wr/\Hid (Gx wr)/\Hid (bG a b=(dM k la lb e,0))) (fun _ _ _ s9 _=>(intOf s9+1).toNat)
   case atStart=>exact⟨n,_,_,_,_,rfl,rfl,AA _,HU1.out,HU2.out,HPB.out,HPA.out,rfl,M6.out,HG6.out,HT.out⟩
   case round =>
    obtain⟨k,z,la,lb,e,rfl,hz,hkn,hla,hlb,hal,hbl,rfl,hbr,HGr,hrec⟩:=hrel;by_cases h0:k=0
    ·subst h0;obtain rfl:z=-1:=by omega
     have HE:=At (show bG a b=(e,0) from hrec.out);clear hrec hal hbl hz;go_wp2;refine Du (v:=.tuple #[.string e,.int .i64 0]) (by simp[results,Tryz.results4,go_sem]) rfl ⟨by rw[HE.out],hbr⟩
    ·obtain⟨m,rfl⟩:∃ m,k=m+1:=⟨k-1,by omega⟩;obtain rfl:z=(m:Int):=by omega
     obtain⟨pa,ca,rfl,-⟩:=id hla.form;obtain⟨pb,cb,rfl,-⟩:=id hlb.form;obtain⟨b1,o1,rfl,hb1,hc1⟩:=hla.all (by omega);obtain⟨b2,o2,rfl,hb2,hc2⟩:=hlb.all (by omega);rw[hal,hbl];have HLA:=At hla;have HLB:=At hlb;have HLL:=At (And.intro hal hbl);have h1:wr.cell? ⟨b1,o1,none⟩=some (.string (am la 0)):=by simpa using hc1 0 (by omega)
     have h2:=hc2 m (by omega);have h3:=hc1 m (by omega);clear hla hlb hal hbl hc1 hc2 hz h0;go_upto_region 12 with fail
     have m4:Below wr.heap.size wr wr.drew:=(Dv _ _).drew;refine ai (fun w'=>∃ x:ax wr.drew.heap.size wr.drew,w'=x.w) (fun i=>i == 9||i == 13||i == 14) (by kernel_rfl) (by kernel_rfl) ⟨⟨_,Dv _ _⟩,rfl⟩ ?_;have HB4:=At (hbr.trans (m4.mono hbr.size));have h1:=aa m4 hb1 h1;have h2:=aa m4 hb2 h2;have h3:=aa m4 hb1 h3;have hb1:=AD hb1 m4.size;have hb2:=AD hb2 m4.size;have HLA:=At (HLA.out.below m4);have HLB:=At (HLB.out.below m4);have HG4:=At (HGr.out.below m4);clear m4 hbr HGr;generalize wr.drew=wd at *
     have hz:wd.heap.size<=wd.heap.size:=AA _;have g1:=fun x:ax wd.heap.size wd=>aa x.h hb1 h1;have g2:=fun x:ax wd.heap.size wd=>aa x.h hb2 h2;have H3:=At h3;have H2:=At h2;have H1:=At h1;clear h1 h2 h3;refine ae 9 0 _ _ _ (by kernel_rfl) ?_;simp only[AC,AG,AB,AF];repeat (go_big_quiet_step (fail))
     refine wpQuiet_nil ?_;refine af rfl rfl (fun K hK=>?_);go_simp;refine (dN _ _ wd HG4.out.g).mono ?_;rintro e5 w5 ⟨rfl,hb5⟩;refine hK _ _ ⟨⟨_,hb5.mono hz⟩,rfl⟩ ?_;clear hK K;try simp only[Act.put,Ax,Aw,Av,Au,Ay,Az]
     refine ae 3 10 _ _ _ (by kernel_rfl) ?_;simp only[AC,AG,AB,AF];repeat (go_big_quiet_step (fail))
     refine wpQuiet_nil ?_;refine af rfl rfl (fun K hK=>?_);go_simp;refine (ej _ _ w5 (HG4.out.below hb5).g).mono ?_;rintro e6 w6 ⟨rfl,hb6⟩;have hB6:=hb5.trans (hb6.mono hb5.size);refine hK _ _ ⟨⟨_,hB6.mono hz⟩,rfl⟩ ?_;clear hK K;try simp only[Act.put,Ax,Aw,Av,Au,Ay,Az]
     refine af rfl rfl (fun K hK=>?_);go_simp;refine (ji _ _ w6 (HG4.out.below hB6).g).mono ?_;rintro e7 w7 ⟨rfl,hb7⟩;have hB7:=hB6.trans (hb7.mono hB6.size);refine hK _ _ ⟨⟨_,hB7.mono hz⟩,rfl⟩ ?_;clear hK K;try simp only[Act.put,Ax,Aw,Av,Au,Ay,Az]
     refine ae 1 15 _ _ _ (by kernel_rfl) ?_;simp only[AC,AG,AB,AF];repeat (go_big_quiet_step (fail))
     refine wpQuiet_nil ?_;refine av ?_;have h1:=aa hB7 hb1 H1.out;have h2:=aa hB7 hb2 H2.out;have h3:=aa hB7 hb1 H3.out;have hb1:=AD hb1 hB7.size;have hb2:=AD hb2 hB7.size;have HLA:=At (HLA.out.below hB7);have HLB:=At (HLB.out.below hB7);have HG7:=At (HG4.out.below hB7);have M7:=At (HB4.out.trans (hB7.mono HB4.out.size));clear g1 g2 H1 H2 H3 hb5 hb6 hb7 hB6 hB7 HB4 HG4 hz;go_upto_region 13 with fail
     have m4:Below w7.heap.size w7 w7.drew:=(Dv _ _).drew;refine ai (fun w'=>∃ x:ax w7.drew.heap.size w7.drew,w'=x.w) (fun i=>i == 7||i == 15) (by kernel_rfl) (by kernel_rfl) ⟨⟨_,Dv _ _⟩,rfl⟩ ?_;have M8:=At (M7.out.trans (m4.mono M7.out.size));have h1:=aa m4 hb1 h1;have h2:=aa m4 hb2 h2;have h3:=aa m4 hb1 h3;have hb1:=AD hb1 m4.size;have hb2:=AD hb2 m4.size;have HLA:=At (HLA.out.below m4);have HLB:=At (HLB.out.below m4);have HG8:=At (HG7.out.below m4);clear m4 M7 HG7;generalize w7.drew=w8 at *
     have hz:w8.heap.size<=w8.heap.size:=AA _;have g1:=fun x:ax w8.heap.size w8=>aa x.h hb1 h1;have g2:=fun x:ax w8.heap.size w8=>aa x.h hb2 h2;have g3:=fun x:ax w8.heap.size w8=>aa x.h hb1 h3;clear h1 h2 h3;refine ae 7 0 _ _ _ (by kernel_rfl) ?_;simp only[AC,AG,AB,AF];repeat (go_big_quiet_step (fail))
     refine wpQuiet_nil ?_;refine af rfl rfl (fun K hK=>?_);go_simp;refine (ej _ _ w8 HG8.out.g).mono ?_;rintro e9 w9 ⟨rfl,hb9⟩;refine hK _ _ ⟨⟨_,hb9.mono hz⟩,rfl⟩ ?_;clear hK K;try simp only[Act.put,Ax,Aw,Av,Au,Ay,Az]
     refine ae 7 8 _ _ _ (by kernel_rfl) ?_;simp only[AC,AG,AB,AF];repeat (go_big_quiet_step (fail))
     refine wpQuiet_nil ?_;refine af rfl rfl (fun K hK=>?_);go_simp;refine (ej _ _ w9 (HG8.out.below hb9).g).mono ?_;rintro e10 w10 ⟨rfl,hb10⟩;have hB10:=hb9.trans (hb10.mono hb9.size);refine hK _ _ ⟨⟨_,hB10.mono hz⟩,rfl⟩ ?_;clear hK K;try simp only[Act.put,Ax,Aw,Av,Au,Ay,Az]
     refine ae 2 16 _ _ _ (by kernel_rfl) ?_;simp only[AC,AG,AB,AF];repeat (go_big_quiet_step (fail))
     refine wpQuiet_nil ?_;refine av ?_;have HLA:=At (HLA.out.below hB10);have HLB:=At (HLB.out.below hB10);have HG10:=At (HG8.out.below hB10);have M10:=At (M8.out.trans (hB10.mono M8.out.size));clear g1 g2 g3 hb9 hb10 hB10 hz M8 HG8;go_upto_region 14 with fail
     go_cut [12,13] from 76 to 79 (fun s12 s13 wx=>∃ g1 g2:Nat,s12=.slice (some ⟨g1,0,none⟩) m m/\s13=.slice (some ⟨g2,0,none⟩) m m/\bV wx g1 m (List.replicate m ⟨#[]⟩)/\bV wx g2 m (List.replicate m ⟨#[]⟩)/\g1≠g2/\w10.heap.size<=g1/\w10.heap.size<=g2/\Below w10.heap.size w10 wx)
     case first =>
      have hBd:Below w10.heap.size w10 w10.drew:=(Dv _ _).drew;refine wp_mono (aH (Q:=ci _) (fun _=>True) (fun _=>false) (by kernel_rfl) ?_) (fun _ _ _ h=>cL h);generalize w10.drew=wd at *
      refine aj (i:=0) (v:=.int .i64 m) rfl (by kernel_rfl) (fun _ _ _ h=>h) rfl (fun wy=>by go_simp;try with_reducible rfl) ?_;try simp only[Act.put,Ax,Aw,Av,Au,Ay,Az]
      refine aj (i:=2) (v:=.int .i64 m) rfl (by kernel_rfl) (fun _ _ _ h=>h) rfl (fun wy=>by go_simp;try with_reducible rfl) ?_;try simp only[Act.put,Ax,Aw,Av,Au,Ay,Az]
      refine kC (i:=1) (i':=3) rfl rfl (by kernel_rfl) rfl rfl (fun K hK=>?_) (fun K hK=>?_)
      ·refine dI rfl ?_;refine bI 22 Tryz.underlying22 rfl (.tmp 76) (.tmp 76) rfl _ _ m rfl rfl (by go_num) (by go_num) (by omega) ?_;intro w11 hr11 hb11 hs11;refine⟨rfl,hK _ _ (fun _ _=>trivial) ?_⟩;clear hK K;try simp only[Act.put,Ax,Aw,Av,Au,Ay,Az]
       refine Ds 4 (r:=?_)
       try simp only[Act.put,Ax,Aw,Av,Au,Ay,Az]
       refine aC (i:=3) rfl (by kernel_rfl) rfl (fun K hK=>?_);refine dI rfl ?_;refine bI 22 Tryz.underlying22 rfl (.tmp 78) (.tmp 78) rfl _ _ m rfl rfl (by go_num) (by go_num) (by omega) ?_;intro w12 hr12 hb12 hs12;refine⟨rfl,hK _ _ (fun _ _=>trivial) ?_⟩;clear hK K;try simp only[Act.put,Ax,Aw,Av,Au,Ay,Az]
       refine Ds 5 (r:=?_)
       try simp only[Act.put,Ax,Aw,Av,Au,Ay,Az]
       refine bC (by kernel_rfl) ?_ _;simp only[ci];try go_wp2
       go_meet;exact⟨wd.heap.size,w11.heap.size,rfl,rfl,hr11.below (hb12 _ _ (Dv _ _) (AA _)),hr12,by omega,by have:=hBd.size;omega,by have:=hBd.size;omega,hBd.trans ((hb12 _ _ (hb11 _ _ (Dv _ _) (AA _)) (by omega)).mono hBd.size)⟩
      ·refine dI rfl ?_;refine bI 22 Tryz.underlying22 rfl (.tmp 78) (.tmp 78) rfl _ _ m rfl rfl (by go_num) (by go_num) (by omega) ?_;intro w11 hr11 hb11 hs11;refine⟨rfl,hK _ _ (fun _ _=>trivial) ?_⟩;clear hK K;try simp only[Act.put,Ax,Aw,Av,Au,Ay,Az]
       refine aC (i:=1) rfl (by kernel_rfl) rfl (fun K hK=>?_);refine dI rfl ?_;refine bI 22 Tryz.underlying22 rfl (.tmp 76) (.tmp 76) rfl _ _ m rfl rfl (by go_num) (by go_num) (by omega) ?_;intro w12 hr12 hb12 hs12;refine⟨rfl,hK _ _ (fun _ _=>trivial) ?_⟩;clear hK K;try simp only[Act.put,Ax,Aw,Av,Au,Ay,Az]
       refine Ds 4 (r:=?_)
       try simp only[Act.put,Ax,Aw,Av,Au,Ay,Az]
       refine Ds 5 (r:=?_)
       try simp only[Act.put,Ax,Aw,Av,Au,Ay,Az]
       refine bC (by kernel_rfl) ?_ _;simp only[ci];try go_wp2
       go_meet;exact⟨w11.heap.size,wd.heap.size,rfl,rfl,hr12,hr11.below (hb12 _ _ (Dv _ _) (AA _)),by omega,by have:=hBd.size;omega,by have:=hBd.size;omega,hBd.trans ((hb12 _ _ (hb11 _ _ (Dv _ _) (AA _)) (by omega)).mono hBd.size)⟩
     case rest =>
      obtain⟨g1,g2,rfl,rfl,hr1,hr2,hne,hg1,hg2,hbc⟩:=hcut;rename World=>wc;have HB0:=At (M10.out.trans (hbc.mono M10.out.size));have HGc:=At (HG10.out.below hbc);have HLAc:=At (HLA.out.below hbc);have HLBc:=At (HLB.out.below hbc);obtain⟨La,hLa⟩:∃ L,L=cI la la m:=⟨_,rfl⟩;obtain⟨Lb,hLb⟩:∃ L,L=cI la lb m:=⟨_,rfl⟩;have hLal:La.length=m:=by rw[hLa];exact h_ _ _ _
      have hLbl:Lb.length=m:=by rw[hLb];exact h_ _ _ _
      have hr1':bV wc g1 m (aX La 0):=by rw[eL,hLal];exact hr1
      have hr2':bV wc g2 m (aX Lb 0):=by rw[eL,hLbl];exact hr2
      have HDA:=At hLa;have HDB:=At hLb;obtain⟨hal,hbl⟩:=HLL.out;obtain⟨b1',o1',e1,hlA,hcA⟩:=HLAc.out.all (by omega);obtain⟨rfl,rfl⟩:b1=b1'/\o1=o1':=by simpa using e1
      obtain⟨b2',o2',e2,hlB,hcB⟩:=HLBc.out.all (by omega);obtain⟨rfl,rfl⟩:b2=b2'/\o2=o2':=by simpa using e2
      rw[hal] at hcA;rw[hbl] at hcB;have HCA:=At hcA;have HCB:=At hcB;have hB0:Below w10.heap.size wc wc:=Dv _ _;have HEN:=At (show bG a b=(dM m La Lb (eX e (bE (cw (am lb m) (am lb m)) (am la 0))),0) by rw[hLa,hLb];exact hrec.out);have hm6:m<1000000:=by omega
      have hlt1:b1<w10.heap.size:=by
       obtain⟨b',o',e',h',-⟩:=HLA.out.all (by omega);obtain⟨rfl,rfl⟩:b1=b'/\o1=o':=by simpa using e'
       exact h'
      have hlt2:b2<w10.heap.size:=by
       obtain⟨b',o',e',h',-⟩:=HLB.out.all (by omega);obtain⟨rfl,rfl⟩:b2=b'/\o2=o':=by simpa using e'
       exact h'
      have hle:w10.heap.size<=wc.heap.size:=hbc.size;have HBC:=At hbc;clear hLa hLb hr1 hr2 hal hbl hcA hcB e1 e2 hlA hlB hbc h1 h2 h3 hb1 hb2 hrec HLAc HLBc;go_wp2;go_loopw [81] (fun s81 wi=>∃ i:Nat,s81=.int .i64 i/\i<=m/\bV wi g1 m (aX La i)/\bV wi g2 m (aX Lb i)/\Below w10.heap.size wc wi) (fun s81 _=>m-(intOf s81).toNat)
      case atStart=>exact⟨0,rfl,AI _,hr1',hr2',hB0⟩
      case round =>
       clear hr1' hr2' hB0;obtain⟨i,rfl,him,hr1,hr2,hbi⟩:=hrel;by_cases hi:i<m
       ·have e1:(m:Int)-(i:Int)=((m-i:Nat):Int):=by omega
        go_upto_region 18 with fail
        have hx:=HCA.out i (by omega);have hy:=HCA.out (m-i) (by omega);have m4:Below wr.heap.size wr wr.drew:=(Dv _ _).drew;have hlw:w10.heap.size<=wr.heap.size:=AP hle hbi.size;have HBd:=At (hbi.trans (m4.mono hlw));have hr9:=At (hr1.below m4);have ho9:=At (hr2.below m4);refine ai (fun w'=>∃ x:ax w10.heap.size wr.drew,w'=x.w) (fun i=>i == 13||i == 14||i == 16) (by kernel_rfl) (by kernel_rfl) ⟨⟨_,Dv _ _⟩,rfl⟩ ?_;have hz:w10.heap.size<=wr.drew.heap.size:=AP hlw m4.size;generalize wr.drew=wd at *
        have c0:=fun x:ax w10.heap.size wd=>aa (HBd.out.trans x.h) hlt1 hx;have c1:=fun x:ax w10.heap.size wd=>aa (HBd.out.trans x.h) hlt1 hy;have HG9:=At (HG10.out.below (HBC.out.trans HBd.out));clear hx hy m4 hr1 hr2 hbi hlw;refine ae 13 0 _ _ _ (by kernel_rfl) ?_;simp only[AC,AG,AB,AF];repeat (go_big_quiet_step (fail))
        refine wpQuiet_nil ?_;clear c0 c1;refine af rfl rfl (fun K hK=>?_);go_simp;refine (dN _ _ wd HG9.out.g).mono ?_;rintro e wa ⟨rfl,hba⟩;refine hK _ _ ⟨⟨_,hba.mono hz⟩,rfl⟩ ?_;clear hK K;try simp only[Act.put,Ax,Aw,Av,Au,Ay,Az]
        refine af rfl rfl (fun K hK=>?_);go_simp;refine (jk _ _ wa (HG9.out.below hba).g).mono ?_;rintro e wb ⟨rfl,hbb⟩;have hBb:=hba.trans (hbb.mono hba.size);refine hK _ _ ⟨⟨_,hBb.mono hz⟩,rfl⟩ ?_;clear hK K;try simp only[Act.put,Ax,Aw,Av,Au,Ay,Az]
        refine ae 1 15 _ _ _ (by kernel_rfl) ?_;simp only[AC,AG,AB,AF];repeat (go_big_quiet_step (fail))
        refine wpQuiet_nil ?_;have hfl:i<(aX La i).length:=by rw[fx La (by omega)];omega
        have rc:=hr9.out.below hBb;have rd:=rc.cell hfl;have re:=rc.free i;obtain⟨tx,htx⟩:∃ t,t=fj (am la i) (cw (bE (am la m) (am la 0)) (am la (m-i))):=⟨_,rfl⟩
        have hset:bV (wb.setCell ⟨g1,i,none⟩ (.string tx)) g1 m (aX La (i+1)):=by
         have h1:=rc.set i tx;have h2:=kP la la (k:=m) hi;rw[<-HDA.out,<-htx] at h2;rw[<-h2];exact h1
        have hoth:=(ho9.out.below hBb).other hne.symm i (.string tx);have hP:Below w10.heap.size wd (wb.setCell ⟨g1,i,none⟩ (.string tx)):=(hBb.mono hz).setCell (p:=⟨g1,i,none⟩) (by show w10.heap.size<=g1;omega) _;rw[<-htx];have HTX:=At htx;clear htx;refine af rfl rfl (fun K hK=>?_);go_simp;refine hK undef _ ⟨⟨_,hP⟩,rfl⟩ ?_;clear hK K;try simp only[Act.put,Ax,Aw,Av,Au,Ay,Az]
        refine av ?_;have hbi:=HBd.out.trans hP;clear rc rd re hP hbb hba hBb hr9 ho9 HG9 HBd hz;generalize wb.setCell ⟨g1,i,none⟩ (.string tx)=we at *
        have hr1:=hset;have hr2:=hoth;clear hset hoth HTX;have e1:(m:Int)-(i:Int)=((m-i:Nat):Int):=by omega
        go_upto_region 19 with fail
        have hx:=HCB.out i (by omega);have hy:=HCA.out (m-i) (by omega);have m4:Below we.heap.size we we.drew:=(Dv _ _).drew;have hlw:w10.heap.size<=we.heap.size:=AP hle hbi.size;have HBd:=At (hbi.trans (m4.mono hlw));have hr9:=At (hr2.below m4);have ho9:=At (hr1.below m4);refine ai (fun w'=>∃ x:ax w10.heap.size we.drew,w'=x.w) (fun i=>i == 13||i == 14||i == 16) (by kernel_rfl) (by kernel_rfl) ⟨⟨_,Dv _ _⟩,rfl⟩ ?_;have hz:w10.heap.size<=we.drew.heap.size:=AP hlw m4.size;generalize we.drew=wd at *
        have c0:=fun x:ax w10.heap.size wd=>aa (HBd.out.trans x.h) hlt2 hx;have c1:=fun x:ax w10.heap.size wd=>aa (HBd.out.trans x.h) hlt1 hy;have HG9:=At (HG10.out.below (HBC.out.trans HBd.out));clear hx hy m4 hr2 hr1 hbi hlw;refine ae 13 0 _ _ _ (by kernel_rfl) ?_;simp only[AC,AG,AB,AF];repeat (go_big_quiet_step (fail))
        refine wpQuiet_nil ?_;clear c0 c1;refine af rfl rfl (fun K hK=>?_);go_simp;refine (dN _ _ wd HG9.out.g).mono ?_;rintro e wa ⟨rfl,hba⟩;refine hK _ _ ⟨⟨_,hba.mono hz⟩,rfl⟩ ?_;clear hK K;try simp only[Act.put,Ax,Aw,Av,Au,Ay,Az]
        refine af rfl rfl (fun K hK=>?_);go_simp;refine (jk _ _ wa (HG9.out.below hba).g).mono ?_;rintro e wb ⟨rfl,hbb⟩;have hBb:=hba.trans (hbb.mono hba.size);refine hK _ _ ⟨⟨_,hBb.mono hz⟩,rfl⟩ ?_;clear hK K;try simp only[Act.put,Ax,Aw,Av,Au,Ay,Az]
        refine ae 1 15 _ _ _ (by kernel_rfl) ?_;simp only[AC,AG,AB,AF];repeat (go_big_quiet_step (fail))
        refine wpQuiet_nil ?_;have hfl:i<(aX Lb i).length:=by rw[fx Lb (by omega)];omega
        have rc:=hr9.out.below hBb;have rd:=rc.cell hfl;have re:=rc.free i;obtain⟨tx,htx⟩:∃ t,t=fj (am lb i) (cw (bE (am lb m) (am la 0)) (am la (m-i))):=⟨_,rfl⟩
        have hset:bV (wb.setCell ⟨g2,i,none⟩ (.string tx)) g2 m (aX Lb (i+1)):=by
         have h1:=rc.set i tx;have h2:=kP la lb (k:=m) hi;rw[<-HDB.out,<-htx] at h2;rw[<-h2];exact h1
        have hoth:=(ho9.out.below hBb).other hne i (.string tx);have hP:Below w10.heap.size wd (wb.setCell ⟨g2,i,none⟩ (.string tx)):=(hBb.mono hz).setCell (p:=⟨g2,i,none⟩) (by show w10.heap.size<=g2;omega) _;rw[<-htx];have HTX:=At htx;clear htx;refine af rfl rfl (fun K hK=>?_);go_simp;refine hK undef _ ⟨⟨_,hP⟩,rfl⟩ ?_;clear hK K;try simp only[Act.put,Ax,Aw,Av,Au,Ay,Az]
        refine av ?_;have hbi:=HBd.out.trans hP;clear rc rd re hP hbb hba hBb hr9 ho9 HG9 HBd hz;generalize wb.setCell ⟨g2,i,none⟩ (.string tx)=wf at *
        have hr2:=hset;have hr1:=hoth;clear hset hoth HTX;go_wp2;go_roundw;case rel=>exact⟨i+1,by go_num,by omega,hr1,hr2,hbi⟩
        case measure=>simp[intOf]<;>omega
       ·obtain rfl:m=i:=by omega
        have HF1:=At (show IsS wr (.slice (some ⟨g1,0,none⟩) La.length m) La from by
         have h1:=hr1;rw[show aX La m=La from by rw[<-hLal];exact eK La] at h1;have:=h1.isS
         exact this)
        have HF2:=At (show IsS wr (.slice (some ⟨g2,0,none⟩) Lb.length m) Lb from by
         have h1:=hr2;rw[show aX Lb m=Lb from by rw[<-hLbl];exact eK Lb] at h1;have:=h1.isS
         exact this)
        have hBN:=HBC.out.trans hbi;have HBN:=At (M10.out.trans (hBN.mono M10.out.size));have HGN:=At (HG10.out.below hBN);clear hr1 hr2 hbi hi hBN;go_wp2;go_roundw;case rel=>exact⟨m,_,La,Lb,_,rfl,by go_num,by omega,by have:=HF1.out;rwa [hLal] at this,by have:=HF2.out;rwa [hLbl] at this,hLal,hLbl,rfl,HBN.out,HGN.out,HEN.out⟩
        case measure=>simp[intOf]<;>omega
 ·have HE:=At (show bG a b=(⟨#[]⟩,30) by unfold bG;rw[if_neg hck]);have hce:au a b=30:=by unfold au;rw[if_neg hck]
  rw[hce] at HCK;clear hce;go_wp2_with fail
  refine HCK.out.mono ?_;rintro e w2 ⟨rfl,hb2⟩;go_wp2;refine Du (v:=.tuple #[.string ⟨#[]⟩,.int .i64 30]) (by simp[results,Tryz.results4,go_sem]) rfl ⟨by rw[HE.out],M1.out.trans (hb2.mono M1.out.size)⟩
end Go.Proofs.YtgakllaobooabaaGreatDoor
