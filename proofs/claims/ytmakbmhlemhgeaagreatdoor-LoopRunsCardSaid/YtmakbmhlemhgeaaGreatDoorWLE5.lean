/- L -/
import Derived.Test.YtmakbmhlemhgeaaGreatDoorWReg
import Derived.Test.YtmakbmhlemhgeaaGreatDoorWPM2
import Derived.Test.YtmakbmhlemhgeaaGreatDoorWLE2
import Derived.Test.YtmakbmhlemhgeaaGreatDoorWB
set_option linter.all false
set_option maxRecDepth 100000
set_option maxHeartbeats 8000000
namespace Go.Proofs.YtmakbmhlemhgeaaGreatDoor
open Go.RowKit Dg
theorem Dr (v:Value) (a b:List ByteArray) (w:World) (hF:IsF w v a b) (hG:Gx w) :
  Calls Tryz.prog 35 #[v] w fun e w'=>e=.returned (.tuple #[.string (ez a b).1,.int .i64 (ez a b).2])/\Below w.heap.size w w':=by
 obtain⟨p,c,q,d,rfl,hfa,hfb⟩:=id hF.ex;go_enter Tryz.func35,Tryz.ntmps35;go_upto_region 1 with fail
 have cc:=aU w (.slice p a.length c) (.slice q b.length d);have m1:=au w (.cells #[.slice p a.length c,.slice q b.length d] 34);have zz:=size_alloc w (.cells #[.slice p a.length c,.slice q b.length d] 34);generalize w.alloc (.cells #[.slice p a.length c,.slice q b.length d] 34)=w1 at *
 have HCK:=GF (fD _ a b w1 (hF.below m1) (hG.below m1));have HA:=GF (hfa.below m1);have HB:=GF (hfb.below m1);have HG:=GF (hG.below m1);have c0:=cc.1;have c1:=cc.2;have hlt:w.heap.size<w1.heap.size:=by omega
 have M1:=GF m1;clear hfa hfb cc zz m1 hF hG;by_cases hck:aI a b=true
 ·have HT:=GF (show ez a b=if (da b).isSome=true then (kw (max a.length b.length) (fq b (max a.length b.length)) (fq a (max a.length b.length)) ⟨#[48]⟩,0) else (⟨#[]⟩,31) by unfold ez;rw[if_pos hck]);have hce:aG a b=0:=by unfold aG;rw[if_pos hck]
  rw[hce] at HCK;obtain⟨ob1,ob7,oa1,oa7,oac,obc,ohd⟩:=bv hck;clear hce;go_wp2_with fail
  refine HCK.out.mono ?_;rintro e w2 ⟨rfl,hb2⟩;have d0:=aj hb2 hlt c0;have d1:=aj hb2 hlt c1;have HA2:=GF (HA.out.below hb2);have HB2:=GF (HB.out.below hb2);have HG2:=GF (HG.out.below hb2);have M2:=GF (M1.out.trans (hb2.mono M1.out.size));have hlt2:w.heap.size<w2.heap.size:=GN hlt hb2.size;clear c0 c1 HA HB HG HCK M1 hb2 hlt;clear oac obc ohd hck;have HS:=GF (ny _ b w2 HB2.out ob1 (by omega) HG2.out.g)
  cases hst:(da b).isSome with
  | false =>
   rw[hst] at HS HT;clear hst;go_wp2_with fail
   refine HS.out.mono ?_;rintro e w3 ⟨rfl,hb3⟩;have HE:=GF (show ez a b=(⟨#[]⟩,31) from HT.out);go_wp2;refine Kh (v:=.tuple #[.string ⟨#[]⟩,.int .i64 31]) (by simp[results,Tryz.results35,go_sem]) rfl ⟨by rw[HE.out],M2.out.trans (hb3.mono M2.out.size)⟩
  | true =>
   rw[hst] at HS HT;clear hst;go_wp2_with fail
   refine HS.out.mono ?_;rintro e w3 ⟨rfl,hb3⟩;have e0:=aj hb3 hlt2 d0;have e1:=aj hb3 hlt2 d1;have hlt3:w.heap.size<w3.heap.size:=GN hlt2 hb3.size;have HA3:=GF (HA2.out.below hb3);have HB3:=GF (HB2.out.below hb3);have HG3:=GF (HG2.out.below hb3);have M3:=GF (M2.out.trans (hb3.mono M2.out.size));clear d0 d1 hlt2 HA2 HB2 HG2 M2 hb3 HS;obtain⟨n,hn⟩:∃ n,n=max a.length b.length:=⟨_,rfl⟩;have hmax:max (a.length:Int) (b.length:Int)=(n:Int):=by rw[hn];omega
   have hn7:n<=7:=by omega
   have hn1:1<=n:=by omega
   have HT:=GF (show ez a b=(kw n (fq b n) (fq a n) ⟨#[48]⟩,0) by rw[hn];exact HT.out);have HPB:=GF (show (fq b n).length=n by rw[iR];omega);have HPA:=GF (show (fq a n).length=n by rw[iR];omega);clear hn;go_upto_region 7 with fail
   clear hmax;have m4:Below w3.heap.size w3 w3.drew:=(Ki _ _).drew;refine aB (fun w'=>∃ x:aL w3.drew.heap.size w3.drew,w'=x.w) (fun i=>i == 3||i == 7) (by kernel_rfl) (by kernel_rfl) ⟨⟨_,Ki _ _⟩,rfl⟩ ?_;have d0:=aj m4 hlt3 e0;have d1:=aj m4 hlt3 e1;have hlt4:w.heap.size<w3.drew.heap.size:=by have:=m4.size;omega
   have HA4:=GF (HA3.out.below m4);have HB4:=GF (HB3.out.below m4);have HG4:=GF (HG3.out.below m4);have M4:=GF (M3.out.trans (m4.mono M3.out.size));clear e0 e1 hlt3 HA3 HB3 HG3 M3 m4;generalize w3.drew=wd at *
   have hz:wd.heap.size<=wd.heap.size:=GM _;have g0:=fun x:aL wd.heap.size wd=>aj x.h hlt4 d0;have g1:=fun x:aL wd.heap.size wd=>aj x.h hlt4 d1;clear d0 d1;refine aq 3 0 _ _ _ (by kernel_rfl) ?_;simp only[GP,GS,GQ,GR];repeat (go_big_quiet_step (fail))
   refine wpQuiet_nil ?_;refine ar rfl rfl (fun K hK=>?_);go_simp;refine (np _ b n wd HB4.out ob1 (by omega) (by omega)).mono ?_;rintro e w5 ⟨u1,rfl,hu1,hb5⟩;refine hK _ _ ⟨⟨_,hb5.mono hz⟩,rfl⟩ ?_;clear hK K;try simp only[Act.put,GJ,GI,GH,GG,GL,GK]
   refine aq 3 4 _ _ _ (by kernel_rfl) ?_;simp only[GP,GS,GQ,GR];repeat (go_big_quiet_step (fail))
   refine wpQuiet_nil ?_;refine ar rfl rfl (fun K hK=>?_);go_simp;refine (np _ a n w5 (HA4.out.below hb5) oa1 (by omega) (by omega)).mono ?_;rintro e w6 ⟨u2,rfl,hu2,hb6⟩;have hB6:=hb5.trans (hb6.mono hb5.size);refine hK _ _ ⟨⟨_,hB6.mono hz⟩,rfl⟩ ?_;clear hK K;try simp only[Act.put,GJ,GI,GH,GG,GL,GK]
   refine aq 2 8 _ _ _ (by kernel_rfl) ?_;simp only[GP,GS,GQ,GR];repeat (go_big_quiet_step (fail))
   refine wpQuiet_nil ?_;refine aH ?_;have HU1:=GF (hu1.isS.below hb6);have HU2:=GF hu2.isS;have M6:=GF (M4.out.trans (hB6.mono M4.out.size));have HG6:=GF (HG4.out.below hB6);clear hu1 hu2 hb5 hb6 hB6 g0 g1 HA4 HB4 HG4 M4 hlt4 hz;go_wp2;go_loopw [6,7,8,9] (fun s6 s7 s8 s9 wr=>∃ (k:Nat) (z:Int) (la lb:List ByteArray) (e:ByteArray),s9=.int .i64 z/\z=(k:Int)-1/\k<=n/\IsS wr s6 la/\IsS wr s7 lb/\la.length=k/\lb.length=k/\s8=.string e/\Below w.heap.size w wr/\Hid (Gx wr)/\Hid (ez a b=(kw k la lb e,0))) (fun _ _ _ s9 _=>(intOf s9+1).toNat)
   case atStart=>exact⟨n,_,_,_,_,rfl,rfl,GM _,HU1.out,HU2.out,HPB.out,HPA.out,rfl,M6.out,HG6.out,HT.out⟩
   case round =>
    obtain⟨k,z,la,lb,e,rfl,hz,hkn,hla,hlb,hal,hbl,rfl,hbr,HGr,hrec⟩:=hrel;by_cases h0:k=0
    ·subst h0;obtain rfl:z=-1:=by omega
     have HE:=GF (show ez a b=(e,0) from hrec.out);clear hrec hal hbl hz;go_wp2;refine Kh (v:=.tuple #[.string e,.int .i64 0]) (by simp[results,Tryz.results35,go_sem]) rfl ⟨by rw[HE.out],hbr⟩
    ·obtain⟨m,rfl⟩:∃ m,k=m+1:=⟨k-1,by omega⟩;obtain rfl:z=(m:Int):=by omega
     obtain⟨pa,ca,rfl,-⟩:=id hla.form;obtain⟨pb,cb,rfl,-⟩:=id hlb.form;obtain⟨b1,o1,rfl,hb1,hc1⟩:=hla.all (by omega);obtain⟨b2,o2,rfl,hb2,hc2⟩:=hlb.all (by omega);rw[hal,hbl];have HLA:=GF hla;have HLB:=GF hlb;have HLL:=GF (And.intro hal hbl);have h1:wr.cell? ⟨b1,o1,none⟩=some (.string (aT la 0)):=by simpa using hc1 0 (by omega)
     have h2:=hc2 m (by omega);have h3:=hc1 m (by omega);clear hla hlb hal hbl hc1 hc2 hz h0;go_upto_region 12 with fail
     have m4:Below wr.heap.size wr wr.drew:=(Ki _ _).drew;refine aB (fun w'=>∃ x:aL wr.drew.heap.size wr.drew,w'=x.w) (fun i=>i == 9||i == 13||i == 14) (by kernel_rfl) (by kernel_rfl) ⟨⟨_,Ki _ _⟩,rfl⟩ ?_;have HB4:=GF (hbr.trans (m4.mono hbr.size));have h1:=aj m4 hb1 h1;have h2:=aj m4 hb2 h2;have h3:=aj m4 hb1 h3;have hb1:=GN hb1 m4.size;have hb2:=GN hb2 m4.size;have HLA:=GF (HLA.out.below m4);have HLB:=GF (HLB.out.below m4);have HG4:=GF (HGr.out.below m4);clear m4 hbr HGr;generalize wr.drew=wd at *
     have hz:wd.heap.size<=wd.heap.size:=GM _;have g1:=fun x:aL wd.heap.size wd=>aj x.h hb1 h1;have g2:=fun x:aL wd.heap.size wd=>aj x.h hb2 h2;have H3:=GF h3;have H2:=GF h2;have H1:=GF h1;clear h1 h2 h3;refine aq 9 0 _ _ _ (by kernel_rfl) ?_;simp only[GP,GS,GQ,GR];repeat (go_big_quiet_step (fail))
     refine wpQuiet_nil ?_;refine ar rfl rfl (fun K hK=>?_);go_simp;refine (fP _ _ wd HG4.out.g).mono ?_;rintro e5 w5 ⟨rfl,hb5⟩;refine hK _ _ ⟨⟨_,hb5.mono hz⟩,rfl⟩ ?_;clear hK K;try simp only[Act.put,GJ,GI,GH,GG,GL,GK]
     refine aq 3 10 _ _ _ (by kernel_rfl) ?_;simp only[GP,GS,GQ,GR];repeat (go_big_quiet_step (fail))
     refine wpQuiet_nil ?_;refine ar rfl rfl (fun K hK=>?_);go_simp;refine (gx _ _ w5 (HG4.out.below hb5).g).mono ?_;rintro e6 w6 ⟨rfl,hb6⟩;have hB6:=hb5.trans (hb6.mono hb5.size);refine hK _ _ ⟨⟨_,hB6.mono hz⟩,rfl⟩ ?_;clear hK K;try simp only[Act.put,GJ,GI,GH,GG,GL,GK]
     refine ar rfl rfl (fun K hK=>?_);go_simp;refine (lG _ _ w6 (HG4.out.below hB6).g).mono ?_;rintro e7 w7 ⟨rfl,hb7⟩;have hB7:=hB6.trans (hb7.mono hB6.size);refine hK _ _ ⟨⟨_,hB7.mono hz⟩,rfl⟩ ?_;clear hK K;try simp only[Act.put,GJ,GI,GH,GG,GL,GK]
     refine aq 1 15 _ _ _ (by kernel_rfl) ?_;simp only[GP,GS,GQ,GR];repeat (go_big_quiet_step (fail))
     refine wpQuiet_nil ?_;refine aH ?_;have h1:=aj hB7 hb1 H1.out;have h2:=aj hB7 hb2 H2.out;have h3:=aj hB7 hb1 H3.out;have hb1:=GN hb1 hB7.size;have hb2:=GN hb2 hB7.size;have HLA:=GF (HLA.out.below hB7);have HLB:=GF (HLB.out.below hB7);have HG7:=GF (HG4.out.below hB7);have M7:=GF (HB4.out.trans (hB7.mono HB4.out.size));clear g1 g2 H1 H2 H3 hb5 hb6 hb7 hB6 hB7 HB4 HG4 hz;go_upto_region 13 with fail
     have m4:Below w7.heap.size w7 w7.drew:=(Ki _ _).drew;refine aB (fun w'=>∃ x:aL w7.drew.heap.size w7.drew,w'=x.w) (fun i=>i == 7||i == 15) (by kernel_rfl) (by kernel_rfl) ⟨⟨_,Ki _ _⟩,rfl⟩ ?_;have M8:=GF (M7.out.trans (m4.mono M7.out.size));have h1:=aj m4 hb1 h1;have h2:=aj m4 hb2 h2;have h3:=aj m4 hb1 h3;have hb1:=GN hb1 m4.size;have hb2:=GN hb2 m4.size;have HLA:=GF (HLA.out.below m4);have HLB:=GF (HLB.out.below m4);have HG8:=GF (HG7.out.below m4);clear m4 M7 HG7;generalize w7.drew=w8 at *
     have hz:w8.heap.size<=w8.heap.size:=GM _;have g1:=fun x:aL w8.heap.size w8=>aj x.h hb1 h1;have g2:=fun x:aL w8.heap.size w8=>aj x.h hb2 h2;have g3:=fun x:aL w8.heap.size w8=>aj x.h hb1 h3;clear h1 h2 h3;refine aq 7 0 _ _ _ (by kernel_rfl) ?_;simp only[GP,GS,GQ,GR];repeat (go_big_quiet_step (fail))
     refine wpQuiet_nil ?_;refine ar rfl rfl (fun K hK=>?_);go_simp;refine (gx _ _ w8 HG8.out.g).mono ?_;rintro e9 w9 ⟨rfl,hb9⟩;refine hK _ _ ⟨⟨_,hb9.mono hz⟩,rfl⟩ ?_;clear hK K;try simp only[Act.put,GJ,GI,GH,GG,GL,GK]
     refine aq 7 8 _ _ _ (by kernel_rfl) ?_;simp only[GP,GS,GQ,GR];repeat (go_big_quiet_step (fail))
     refine wpQuiet_nil ?_;refine ar rfl rfl (fun K hK=>?_);go_simp;refine (gx _ _ w9 (HG8.out.below hb9).g).mono ?_;rintro e10 w10 ⟨rfl,hb10⟩;have hB10:=hb9.trans (hb10.mono hb9.size);refine hK _ _ ⟨⟨_,hB10.mono hz⟩,rfl⟩ ?_;clear hK K;try simp only[Act.put,GJ,GI,GH,GG,GL,GK]
     refine aq 2 16 _ _ _ (by kernel_rfl) ?_;simp only[GP,GS,GQ,GR];repeat (go_big_quiet_step (fail))
     refine wpQuiet_nil ?_;refine aH ?_;have HLA:=GF (HLA.out.below hB10);have HLB:=GF (HLB.out.below hB10);have HG10:=GF (HG8.out.below hB10);have M10:=GF (M8.out.trans (hB10.mono M8.out.size));clear g1 g2 g3 hb9 hb10 hB10 hz M8 HG8;go_upto_region 14 with fail
     go_cut [12,13] from 76 to 79 (fun s12 s13 wx=>∃ g1 g2:Nat,s12=.slice (some ⟨g1,0,none⟩) m m/\s13=.slice (some ⟨g2,0,none⟩) m m/\dD wx g1 m (List.replicate m ⟨#[]⟩)/\dD wx g2 m (List.replicate m ⟨#[]⟩)/\g1≠g2/\w10.heap.size<=g1/\w10.heap.size<=g2/\Below w10.heap.size w10 wx)
     case first =>
      have hBd:Below w10.heap.size w10 w10.drew:=(Ki _ _).drew;refine wp_mono (aD (Q:=aX _) (fun _=>True) (fun _=>false) (by kernel_rfl) ?_) (fun _ _ _ h=>bf h);generalize w10.drew=wd at *
      refine ap (i:=0) (v:=.int .i64 m) rfl (by kernel_rfl) (fun _ _ _ h=>h) rfl (fun wy=>by go_simp;try with_reducible rfl) ?_;try simp only[Act.put,GJ,GI,GH,GG,GL,GK]
      refine ap (i:=2) (v:=.int .i64 m) rfl (by kernel_rfl) (fun _ _ _ h=>h) rfl (fun wy=>by go_simp;try with_reducible rfl) ?_;try simp only[Act.put,GJ,GI,GH,GG,GL,GK]
      refine iw (i:=1) (i':=3) rfl rfl (by kernel_rfl) rfl rfl (fun K hK=>?_) (fun K hK=>?_)
      ·refine fM rfl ?_;refine dt 29 Tryz.underlying29 rfl (.tmp 76) (.tmp 76) rfl _ _ m rfl rfl (by go_num) (by go_num) (by omega) ?_;intro w11 hr11 hb11 hs11;refine⟨rfl,hK _ _ (fun _ _=>trivial) ?_⟩;clear hK K;try simp only[Act.put,GJ,GI,GH,GG,GL,GK]
       refine Kf 4 (r:=?_)
       try simp only[Act.put,GJ,GI,GH,GG,GL,GK]
       refine aA (i:=3) rfl (by kernel_rfl) rfl (fun K hK=>?_);refine fM rfl ?_;refine dt 29 Tryz.underlying29 rfl (.tmp 78) (.tmp 78) rfl _ _ m rfl rfl (by go_num) (by go_num) (by omega) ?_;intro w12 hr12 hb12 hs12;refine⟨rfl,hK _ _ (fun _ _=>trivial) ?_⟩;clear hK K;try simp only[Act.put,GJ,GI,GH,GG,GL,GK]
       refine Kf 5 (r:=?_)
       try simp only[Act.put,GJ,GI,GH,GG,GL,GK]
       refine aK (by kernel_rfl) ?_ _;simp only[aX];try go_wp2
       go_meet;exact⟨wd.heap.size,w11.heap.size,rfl,rfl,hr11.below (hb12 _ _ (Ki _ _) (GM _)),hr12,by omega,by have:=hBd.size;omega,by have:=hBd.size;omega,hBd.trans ((hb12 _ _ (hb11 _ _ (Ki _ _) (GM _)) (by omega)).mono hBd.size)⟩
      ·refine fM rfl ?_;refine dt 29 Tryz.underlying29 rfl (.tmp 78) (.tmp 78) rfl _ _ m rfl rfl (by go_num) (by go_num) (by omega) ?_;intro w11 hr11 hb11 hs11;refine⟨rfl,hK _ _ (fun _ _=>trivial) ?_⟩;clear hK K;try simp only[Act.put,GJ,GI,GH,GG,GL,GK]
       refine aA (i:=1) rfl (by kernel_rfl) rfl (fun K hK=>?_);refine fM rfl ?_;refine dt 29 Tryz.underlying29 rfl (.tmp 76) (.tmp 76) rfl _ _ m rfl rfl (by go_num) (by go_num) (by omega) ?_;intro w12 hr12 hb12 hs12;refine⟨rfl,hK _ _ (fun _ _=>trivial) ?_⟩;clear hK K;try simp only[Act.put,GJ,GI,GH,GG,GL,GK]
       refine Kf 4 (r:=?_)
       try simp only[Act.put,GJ,GI,GH,GG,GL,GK]
       refine Kf 5 (r:=?_)
       try simp only[Act.put,GJ,GI,GH,GG,GL,GK]
       refine aK (by kernel_rfl) ?_ _;simp only[aX];try go_wp2
       go_meet;exact⟨w11.heap.size,wd.heap.size,rfl,rfl,hr12,hr11.below (hb12 _ _ (Ki _ _) (GM _)),by omega,by have:=hBd.size;omega,by have:=hBd.size;omega,hBd.trans ((hb12 _ _ (hb11 _ _ (Ki _ _) (GM _)) (by omega)).mono hBd.size)⟩
     case rest =>
      obtain⟨g1,g2,rfl,rfl,hr1,hr2,hne,hg1,hg2,hbc⟩:=hcut;rename World=>wc;have HB0:=GF (M10.out.trans (hbc.mono M10.out.size));have HGc:=GF (HG10.out.below hbc);have HLAc:=GF (HLA.out.below hbc);have HLBc:=GF (HLB.out.below hbc);obtain⟨La,hLa⟩:∃ L,L=iF la la m:=⟨_,rfl⟩;obtain⟨Lb,hLb⟩:∃ L,L=iF la lb m:=⟨_,rfl⟩;have hLal:La.length=m:=by rw[hLa];exact l4 _ _ _
      have hLbl:Lb.length=m:=by rw[hLb];exact l4 _ _ _
      have hr1':dD wc g1 m (ci La 0):=by rw[gS,hLal];exact hr1
      have hr2':dD wc g2 m (ci Lb 0):=by rw[gS,hLbl];exact hr2
      have HDA:=GF hLa;have HDB:=GF hLb;obtain⟨hal,hbl⟩:=HLL.out;obtain⟨b1',o1',e1,hlA,hcA⟩:=HLAc.out.all (by omega);obtain⟨rfl,rfl⟩:b1=b1'/\o1=o1':=by simpa using e1
      obtain⟨b2',o2',e2,hlB,hcB⟩:=HLBc.out.all (by omega);obtain⟨rfl,rfl⟩:b2=b2'/\o2=o2':=by simpa using e2
      rw[hal] at hcA;rw[hbl] at hcB;have HCA:=GF hcA;have HCB:=GF hcB;have hB0:Below w10.heap.size wc wc:=Ki _ _;have HEN:=GF (show ez a b=(kw m La Lb (jk e (cX (ek (aT lb m) (aT lb m)) (aT la 0))),0) by rw[hLa,hLb];exact hrec.out);have hm6:m<1000000:=by omega
      have hlt1:b1<w10.heap.size:=by
       obtain⟨b',o',e',h',-⟩:=HLA.out.all (by omega);obtain⟨rfl,rfl⟩:b1=b'/\o1=o':=by simpa using e'
       exact h'
      have hlt2:b2<w10.heap.size:=by
       obtain⟨b',o',e',h',-⟩:=HLB.out.all (by omega);obtain⟨rfl,rfl⟩:b2=b'/\o2=o':=by simpa using e'
       exact h'
      have hle:w10.heap.size<=wc.heap.size:=hbc.size;have HBC:=GF hbc;clear hLa hLb hr1 hr2 hal hbl hcA hcB e1 e2 hlA hlB hbc h1 h2 h3 hb1 hb2 hrec HLAc HLBc;go_wp2;go_loopw [81] (fun s81 wi=>∃ i:Nat,s81=.int .i64 i/\i<=m/\dD wi g1 m (ci La i)/\dD wi g2 m (ci Lb i)/\Below w10.heap.size wc wi) (fun s81 _=>m-(intOf s81).toNat)
      case atStart=>exact⟨0,rfl,GY _,hr1',hr2',hB0⟩
      case round =>
       clear hr1' hr2' hB0;obtain⟨i,rfl,him,hr1,hr2,hbi⟩:=hrel;by_cases hi:i<m
       ·have e1:(m:Int)-(i:Int)=((m-i:Nat):Int):=by omega
        go_upto_region 18 with fail
        have hx:=HCA.out i (by omega);have hy:=HCA.out (m-i) (by omega);have m4:Below wr.heap.size wr wr.drew:=(Ki _ _).drew;have hlw:w10.heap.size<=wr.heap.size:=GV hle hbi.size;have HBd:=GF (hbi.trans (m4.mono hlw));have hr9:=GF (hr1.below m4);have ho9:=GF (hr2.below m4);refine aB (fun w'=>∃ x:aL w10.heap.size wr.drew,w'=x.w) (fun i=>i == 13||i == 14||i == 16) (by kernel_rfl) (by kernel_rfl) ⟨⟨_,Ki _ _⟩,rfl⟩ ?_;have hz:w10.heap.size<=wr.drew.heap.size:=GV hlw m4.size;generalize wr.drew=wd at *
        have c0:=fun x:aL w10.heap.size wd=>aj (HBd.out.trans x.h) hlt1 hx;have c1:=fun x:aL w10.heap.size wd=>aj (HBd.out.trans x.h) hlt1 hy;have HG9:=GF (HG10.out.below (HBC.out.trans HBd.out));clear hx hy m4 hr1 hr2 hbi hlw;refine aq 13 0 _ _ _ (by kernel_rfl) ?_;simp only[GP,GS,GQ,GR];repeat (go_big_quiet_step (fail))
        refine wpQuiet_nil ?_;clear c0 c1;refine ar rfl rfl (fun K hK=>?_);go_simp;refine (fP _ _ wd HG9.out.g).mono ?_;rintro e wa ⟨rfl,hba⟩;refine hK _ _ ⟨⟨_,hba.mono hz⟩,rfl⟩ ?_;clear hK K;try simp only[Act.put,GJ,GI,GH,GG,GL,GK]
        refine ar rfl rfl (fun K hK=>?_);go_simp;refine (lH _ _ wa (HG9.out.below hba).g).mono ?_;rintro e wb ⟨rfl,hbb⟩;have hBb:=hba.trans (hbb.mono hba.size);refine hK _ _ ⟨⟨_,hBb.mono hz⟩,rfl⟩ ?_;clear hK K;try simp only[Act.put,GJ,GI,GH,GG,GL,GK]
        refine aq 1 15 _ _ _ (by kernel_rfl) ?_;simp only[GP,GS,GQ,GR];repeat (go_big_quiet_step (fail))
        refine wpQuiet_nil ?_;have hfl:i<(ci La i).length:=by rw[iH La (by omega)];omega
        have rc:=hr9.out.below hBb;have rd:=rc.cell hfl;have re:=rc.free i;obtain⟨tx,htx⟩:∃ t,t=jC (aT la i) (ek (cX (aT la m) (aT la 0)) (aT la (m-i))):=⟨_,rfl⟩
        have hset:dD (wb.setCell ⟨g1,i,none⟩ (.string tx)) g1 m (ci La (i+1)):=by
         have h1:=rc.set i tx;have h2:=nR la la (k:=m) hi;rw[<-HDA.out,<-htx] at h2;rw[<-h2];exact h1
        have hoth:=(ho9.out.below hBb).other hne.symm i (.string tx);have hP:Below w10.heap.size wd (wb.setCell ⟨g1,i,none⟩ (.string tx)):=(hBb.mono hz).setCell (p:=⟨g1,i,none⟩) (by show w10.heap.size<=g1;omega) _;rw[<-htx];have HTX:=GF htx;clear htx;refine ar rfl rfl (fun K hK=>?_);go_simp;refine hK undef _ ⟨⟨_,hP⟩,rfl⟩ ?_;clear hK K;try simp only[Act.put,GJ,GI,GH,GG,GL,GK]
        refine aH ?_;have hbi:=HBd.out.trans hP;clear rc rd re hP hbb hba hBb hr9 ho9 HG9 HBd hz;generalize wb.setCell ⟨g1,i,none⟩ (.string tx)=we at *
        have hr1:=hset;have hr2:=hoth;clear hset hoth HTX;have e1:(m:Int)-(i:Int)=((m-i:Nat):Int):=by omega
        go_upto_region 19 with fail
        have hx:=HCB.out i (by omega);have hy:=HCA.out (m-i) (by omega);have m4:Below we.heap.size we we.drew:=(Ki _ _).drew;have hlw:w10.heap.size<=we.heap.size:=GV hle hbi.size;have HBd:=GF (hbi.trans (m4.mono hlw));have hr9:=GF (hr2.below m4);have ho9:=GF (hr1.below m4);refine aB (fun w'=>∃ x:aL w10.heap.size we.drew,w'=x.w) (fun i=>i == 13||i == 14||i == 16) (by kernel_rfl) (by kernel_rfl) ⟨⟨_,Ki _ _⟩,rfl⟩ ?_;have hz:w10.heap.size<=we.drew.heap.size:=GV hlw m4.size;generalize we.drew=wd at *
        have c0:=fun x:aL w10.heap.size wd=>aj (HBd.out.trans x.h) hlt2 hx;have c1:=fun x:aL w10.heap.size wd=>aj (HBd.out.trans x.h) hlt1 hy;have HG9:=GF (HG10.out.below (HBC.out.trans HBd.out));clear hx hy m4 hr2 hr1 hbi hlw;refine aq 13 0 _ _ _ (by kernel_rfl) ?_;simp only[GP,GS,GQ,GR];repeat (go_big_quiet_step (fail))
        refine wpQuiet_nil ?_;clear c0 c1;refine ar rfl rfl (fun K hK=>?_);go_simp;refine (fP _ _ wd HG9.out.g).mono ?_;rintro e wa ⟨rfl,hba⟩;refine hK _ _ ⟨⟨_,hba.mono hz⟩,rfl⟩ ?_;clear hK K;try simp only[Act.put,GJ,GI,GH,GG,GL,GK]
        refine ar rfl rfl (fun K hK=>?_);go_simp;refine (lH _ _ wa (HG9.out.below hba).g).mono ?_;rintro e wb ⟨rfl,hbb⟩;have hBb:=hba.trans (hbb.mono hba.size);refine hK _ _ ⟨⟨_,hBb.mono hz⟩,rfl⟩ ?_;clear hK K;try simp only[Act.put,GJ,GI,GH,GG,GL,GK]
        refine aq 1 15 _ _ _ (by kernel_rfl) ?_;simp only[GP,GS,GQ,GR];repeat (go_big_quiet_step (fail))
        refine wpQuiet_nil ?_;have hfl:i<(ci Lb i).length:=by rw[iH Lb (by omega)];omega
        have rc:=hr9.out.below hBb;have rd:=rc.cell hfl;have re:=rc.free i;obtain⟨tx,htx⟩:∃ t,t=jC (aT lb i) (ek (cX (aT lb m) (aT la 0)) (aT la (m-i))):=⟨_,rfl⟩
        have hset:dD (wb.setCell ⟨g2,i,none⟩ (.string tx)) g2 m (ci Lb (i+1)):=by
         have h1:=rc.set i tx;have h2:=nR la lb (k:=m) hi;rw[<-HDB.out,<-htx] at h2;rw[<-h2];exact h1
        have hoth:=(ho9.out.below hBb).other hne i (.string tx);have hP:Below w10.heap.size wd (wb.setCell ⟨g2,i,none⟩ (.string tx)):=(hBb.mono hz).setCell (p:=⟨g2,i,none⟩) (by show w10.heap.size<=g2;omega) _;rw[<-htx];have HTX:=GF htx;clear htx;refine ar rfl rfl (fun K hK=>?_);go_simp;refine hK undef _ ⟨⟨_,hP⟩,rfl⟩ ?_;clear hK K;try simp only[Act.put,GJ,GI,GH,GG,GL,GK]
        refine aH ?_;have hbi:=HBd.out.trans hP;clear rc rd re hP hbb hba hBb hr9 ho9 HG9 HBd hz;generalize wb.setCell ⟨g2,i,none⟩ (.string tx)=wf at *
        have hr2:=hset;have hr1:=hoth;clear hset hoth HTX;go_wp2;go_roundw;case rel=>exact⟨i+1,by go_num,by omega,hr1,hr2,hbi⟩
        case measure=>simp[intOf]<;>omega
       ·obtain rfl:m=i:=by omega
        have HF1:=GF (show IsS wr (.slice (some ⟨g1,0,none⟩) La.length m) La from by
         have h1:=hr1;rw[show ci La m=La from by rw[<-hLal];exact gR La] at h1;have:=h1.isS
         exact this)
        have HF2:=GF (show IsS wr (.slice (some ⟨g2,0,none⟩) Lb.length m) Lb from by
         have h1:=hr2;rw[show ci Lb m=Lb from by rw[<-hLbl];exact gR Lb] at h1;have:=h1.isS
         exact this)
        have hBN:=HBC.out.trans hbi;have HBN:=GF (M10.out.trans (hBN.mono M10.out.size));have HGN:=GF (HG10.out.below hBN);clear hr1 hr2 hbi hi hBN;go_wp2;go_roundw;case rel=>exact⟨m,_,La,Lb,_,rfl,by go_num,by omega,by have:=HF1.out;rwa [hLal] at this,by have:=HF2.out;rwa [hLbl] at this,hLal,hLbl,rfl,HBN.out,HGN.out,HEN.out⟩
        case measure=>simp[intOf]<;>omega
 ·have HE:=GF (show ez a b=(⟨#[]⟩,30) by unfold ez;rw[if_neg hck]);have hce:aG a b=30:=by unfold aG;rw[if_neg hck]
  rw[hce] at HCK;clear hce;go_wp2_with fail
  refine HCK.out.mono ?_;rintro e w2 ⟨rfl,hb2⟩;go_wp2;refine Kh (v:=.tuple #[.string ⟨#[]⟩,.int .i64 30]) (by simp[results,Tryz.results35,go_sem]) rfl ⟨by rw[HE.out],M1.out.trans (hb2.mono M1.out.size)⟩
end Go.Proofs.YtmakbmhlemhgeaaGreatDoor
