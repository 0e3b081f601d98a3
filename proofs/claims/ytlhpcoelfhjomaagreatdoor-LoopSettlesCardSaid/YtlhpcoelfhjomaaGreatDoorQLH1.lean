/- L -/
import Derived.Laws.EntriesVeiled
import Derived.Test.YtlhpcoelfhjomaaGreatDoorQLP10
import Derived.Test.YtlhpcoelfhjomaaGreatDoorQPL3
import Derived.Test.YtlhpcoelfhjomaaGreatDoorQPM4
set_option linter.all false
set_option maxRecDepth 100000
set_option maxHeartbeats 8000000
namespace Go.Proofs.YtlhpcoelfhjomaaGreatDoor
open Go.RowKit Dg
def iP (fa fb:List ByteArray) (k:ByteArray):List ByteArray:=ln (fa.map (fun a=>d_ a k)) fb
def da (fa fb:List ByteArray) (k:ByteArray):Bool:=if aD (iP fa fb k) 0=⟨#[48]⟩ then false else (bA ((iP fa fb k).map (fun a=>dw a (aD (iP fa fb k) 0)))).isSome
theorem Hz (k:ByteArray) (g:Nat) (w:World) (hc:w.cell? ⟨g,0,none⟩=some (.string k)) (hg:g<w.heap.size) (hG:Gw w) :
  FnT 182 #[.pointer (some ⟨g,0,none⟩)] (fun a=>d_ a k) w:=by
 refine⟨cA Tryz.func182 rfl (by kernel_rfl),fun x w' hb=>?_⟩;have c0:=ag hb hg hc;have HG:=Ip (hG.below hb)
 show Calls _ _ #[_,_] _ _
 go_enter Tryz.func182,Tryz.ntmps182;go_wp2_with fail
 refine (gp _ _ w' HG.out).mono ?_;rintro e w1 ⟨rfl,hb1⟩;go_wp2;go_ret;exact⟨rfl,hb1⟩
theorem rX (fa fb:List ByteArray) (k:ByteArray):(iP fa fb k).length=max fa.length fb.length:=by unfold iP;rw[qZ,IX]
theorem oH (v:Value) (fa fb:List ByteArray) (k:ByteArray) (w:World) (hF:IsF w v fa fb) (h2:fa.length<1000) (h3:fb.length<1000) (hG:Gw w) :
  Calls Tryz.prog 131 #[v,.string k] w fun e w'=>∃ u,e=.returned u/\IsS w' u (iP fa fb k)/\Below w.heap.size w w':=by
 obtain⟨p,c,q,d,rfl,hfa,hfb⟩:=id hF.ex;go_enter Tryz.func131,Tryz.ntmps131;go_upto_region 1 with fail
 have cc:=aG w (.slice p fa.length c) (.slice q fb.length d);have m1:=aj w (.cells #[.slice p fa.length c,.slice q fb.length d] 24);have z1:=size_alloc w (.cells #[.slice p fa.length c,.slice q fb.length d] 24);generalize w.alloc (.cells #[.slice p fa.length c,.slice q fb.length d] 24)=w1 at *
 have a0:=aI w1 #[.string k] 25 0 _ rfl;have m2:=aj w1 (.cells #[.string k] 25);have z2:=size_alloc w1 (.cells #[.string k] 25);have b0:=ag m2 (show w.heap.size<w1.heap.size by omega) cc.1;have b1:=ag m2 (show w.heap.size<w1.heap.size by omega) cc.2;generalize w1.alloc (.cells #[.string k] 25)=w2 at *
 rw[z1] at a0;have m3:Below w2.heap.size w2 w2.drew:=(LN _ _).drew;refine av (fun w'=>∃ x:az w2.drew.heap.size w2.drew,w'=x.w) (fun i=>i == 3||i == 6) (by kernel_rfl) (by kernel_rfl) ⟨⟨_,LN _ _⟩,rfl⟩ ?_;have a0:=ag m3 (show w.heap.size+1<w2.heap.size by omega) a0;have b0:=ag m3 (show w.heap.size<w2.heap.size by omega) b0;have b1:=ag m3 (show w.heap.size<w2.heap.size by omega) b1;have hw2:w.heap.size+1<w2.drew.heap.size:=by have:=m3.size;omega
 have M2:=LK m1 m2;have MD:=Ip (LK M2 m3);have HA:=Ip (hfa.below MD.out);have HB:=Ip (hfb.below MD.out);have HG:=Ip (hG.below MD.out);clear m1 m2 m3 z1 z2 cc hfa hfb hG hF M2;generalize w2.drew=wd at *
 have hz:wd.heap.size<=wd.heap.size:=Iw _;have HFn:=Ip (Hz k (w.heap.size+1) wd a0 hw2 HG.out);have d0:=fun x:az wd.heap.size wd=>ag x.h (show w.heap.size<wd.heap.size by omega) b0;have d1:=fun x:az wd.heap.size wd=>ag x.h (show w.heap.size<wd.heap.size by omega) b1;have hwd:=MD.out.size;clear a0 b0 b1;refine ak 3 0 _ _ _ (by kernel_rfl) ?_;simp only[Ix,IC,Iy,IA];repeat (go_big_quiet_step (fail))
 refine wpQuiet_nil ?_;refine ap rfl rfl (fun K hK=>?_);go_simp;refine (zB _ fa _ _ _ wd HA.out (by omega) HFn.out).mono ?_;rintro e w6 ⟨u1,rfl,hu1,hb6⟩;obtain⟨L1,hL1⟩:∃ L,L=fa.map (fun a=>d_ a k):=⟨_,rfl⟩;have hl1:L1.length<1000:=by rw[hL1,IX];exact h2
 have HC:=Ip (show iP fa fb k=ln L1 fb by unfold iP;rw[<-hL1]);rw[<-hL1] at hu1;clear hL1;refine hK _ _ ⟨⟨_,hb6.mono hz⟩,rfl⟩ ?_;clear hK K;try simp only[Act.put,It,Is,Ir,Iq,Iu,Iv]
 refine ak 2 4 _ _ _ (by kernel_rfl) ?_;simp only[Ix,IC,Iy,IA];repeat (go_big_quiet_step (fail))
 refine wpQuiet_nil ?_;refine ap rfl rfl (fun K hK=>?_);go_simp;refine (sumN _ _ L1 fb w6 hu1.isS (HB.out.below hb6) (by omega) (by omega) (HG.out.below hb6)).mono ?_;rintro e w7 ⟨u2,rfl,hu2,hb7⟩;have hB7:=LK hb6 hb7;refine hK _ _ ⟨⟨_,hB7.mono hz⟩,rfl⟩ ?_;clear hK K;try simp only[Act.put,It,Is,Ir,Iq,Iu,Iv]
 refine ak 1 7 _ _ _ (by kernel_rfl) ?_;simp only[Ix,IC,Iy,IA];repeat (go_big_quiet_step (fail))
 refine wpQuiet_nil ?_;refine aE ?_;rw[<-HC.out] at hu2;have HU:=Ip hu2;have hb66:=hb6.size;have MF:=Ip (MD.out.trans (hB7.mono hwd));clear hu2 hu1 hb7 hB7 d0 d1;go_wp2;go_ret;exact⟨_,rfl,HU.out.isS,MF.out⟩
theorem GT (s:List ByteArray) (h0:0<s.length) (k:Nat) (p:Option Addr) (n c:Nat) (w:World) (hs:IsS w (.slice p n c) s) (hn:n=s.length) (hc:w.cell? ⟨k,0,none⟩=some (.slice p n c)) (hk:k<w.heap.size) (hG:Gw w) :
  FnT 133 #[.pointer (some ⟨k,0,none⟩)] (fun a=>dw a (aD s 0)) w:=by
 refine⟨cA Tryz.func133 rfl (by kernel_rfl),fun x w0 hw=>?_⟩;obtain⟨b,o,rfl,hlt,hcs⟩:=hs.all h0;have c0:=ag hw hk hc;have c1:w0.cell? ⟨b,o,none⟩=some (.string (aD s 0)):=by simpa using ag hw hlt (hcs 0 h0)
 have HD:=Ip (gT x (aD s 0) w0 (hG.below hw));have hnp:0<n:=by omega
 clear hcs hs hn
 show Calls _ _ #[_,.pointer (some ⟨k,0,none⟩)] _ _
 go_enter Tryz.func133,Tryz.ntmps133;go_wp2_with fail
 refine HD.out.mono ?_;rintro e w1 ⟨rfl,hb1⟩;go_wp2;go_ret;exact⟨rfl,hb1⟩
theorem lM (v:Value) (fa fb:List ByteArray) (k:ByteArray) (w:World) (hF:IsF w v fa fb) (h1:0<fb.length) (h2:fa.length<1000) (h3:fb.length<1000) (hG:Gw w) :
  Calls Tryz.prog 86 #[v,.string k] w fun e w'=>e=.returned (.bool (da fa fb k))/\Below w.heap.size w w':=by
 obtain⟨p,c,q,d,rfl,hfa,hfb⟩:=id hF.ex;go_enter Tryz.func86,Tryz.ntmps86;go_upto_region 1 with fail
 have cc:=aG w (.slice p fa.length c) (.slice q fb.length d);have m1:=aj w (.cells #[.slice p fa.length c,.slice q fb.length d] 24);have HC:=Ip (oH _ fa fb k _ (hF.below m1) h2 h3 (hG.below m1));have HG:=Ip (hG.below m1);have M1:=Ip m1;generalize w.alloc (.cells #[.slice p fa.length c,.slice q fb.length d] 24)=w1 at *
 have c0:=cc.1;have c1:=cc.2;have hsl:0<(iP fa fb k).length:=by rw[rX];omega
 have hsl2:(iP fa fb k).length<1000:=by rw[rX];omega
 have HT:=Ip (show da fa fb k=if aD (iP fa fb k) 0=⟨#[48]⟩ then false else (bA ((iP fa fb k).map (fun a=>dw a (aD (iP fa fb k) 0)))).isSome from rfl);clear hF hG hfa hfb m1 cc;generalize iP fa fb k=s at *
 go_wp2_with fail
 refine HC.out.mono ?_;rintro e w2 ⟨u,rfl,hu,hb2⟩;have hi:=hu;obtain⟨pu,cu,rfl,-⟩:=id hi.form;obtain⟨b,o,rfl,hlt,hcs⟩:=hi.all hsl;have hcs0:w2.cell? ⟨b,o,none⟩=some (.string (aD s 0)):=by simpa using hcs 0 hsl
 have M2:=LK M1.out hb2;clear hu hcs c0 c1 HC;go_upto_region 2 with fail
 have a5:(w2.alloc (.cells #[.slice (some ⟨b,o,none⟩) s.length cu] 22)).cell? ⟨w2.heap.size,0,none⟩=some (.slice (some ⟨b,o,none⟩) s.length cu):=aI w2 _ _ 0 _ rfl;have m3:=aj w2 (.cells #[.slice (some ⟨b,o,none⟩) s.length cu] 22);have z3:=size_alloc w2 (.cells #[.slice (some ⟨b,o,none⟩) s.length cu] 22);generalize w2.alloc (.cells #[.slice (some ⟨b,o,none⟩) s.length cu] 22)=w3 at *
 have e0:=ag m3 hlt hcs0;have M3:=Ip (LK M2 m3);have HG3:=Ip (HG.out.below (LK hb2 m3));have HI:=Ip (hi.below m3);have HFn:=Ip (GT s hsl w2.heap.size (some ⟨b,o,none⟩) s.length cu w3 HI.out rfl a5 (by omega) HG3.out);clear m3 z3 hi hcs0 M2 M1 hb2 HG hlt;by_cases heq:aD s 0=⟨#[48]⟩
 ·have HE:=Ip (show da fa fb k=false by rw[HT.out,if_pos heq]);have hd:((aD s 0).toList == [48])=true:=by rw[heq,aw];rfl
  clear heq;go_wp2;go_ret;exact⟨by rw[HE.out];rfl,M3.out⟩
 ·have HE:=Ip (show da fa fb k=(bA (s.map (fun a=>dw a (aD s 0)))).isSome by rw[HT.out,if_neg heq])
  have hd:((aD s 0).toList == [48])=false:=by
   rw[Ji];intro h;refine heq (jy ?_);rw[<-aw];simpa using h
  clear heq;go_wp2_with fail
  refine (zB _ s _ _ _ w3 HI.out (by omega) HFn.out).mono ?_;rintro e w6 ⟨u1,rfl,hu1,hb6⟩;obtain⟨L1,hL1⟩:∃ L,L=s.map (fun a=>dw a (aD s 0)):=⟨_,rfl⟩;have hl1:L1.length=s.length:=by rw[hL1,IX]
  rw[<-hL1] at hu1 HE;have HI1:=Ip hu1.isS;have hl2:0<L1.length:=by omega
  have hl3:L1.length<1000000:=by omega
  clear hL1 hl1 hu1;go_wp2_with fail
  refine (oZ _ L1 w6 HI1.out hl2 hl3 (HG3.out.below hb6)).mono ?_;rintro e w7 ⟨rfl,hb7⟩;have MF:=Ip (LK M3.out (LK hb6 hb7));clear hb6 hb7;go_wp2;go_ret;exact⟨by rw[HE.out];rfl,MF.out⟩
theorem yB (va vb:Value) (a b:List ByteArray) (w:World) (ha:IsS w va a) (hb:IsS w vb b) (hG:Gw w) :
  Calls Tryz.prog 173 #[va,vb] w fun e w'=>∃ v',e=.returned v'/\IsS w' v' (ck CQ.add a b).1/\Below w.heap.size w w':=by
 have HC:=Ip (DW va vb a b w ha hb hG);clear ha hb hG;generalize ck CQ.add a b=r at *
 go_enter Tryz.func173,Tryz.ntmps173;go_wp2_with fail
 refine HC.out.mono ?_;rintro e w1 ⟨v,rfl,hv,hb⟩;go_wp2;go_ret;exact⟨_,rfl,hv,hb⟩
theorem Fx (va vb:Value) (a b:List ByteArray) (w:World) (ha:IsS w va a) (hb:IsS w vb b) (hG:Gw w) :
  Calls Tryz.prog 174 #[va,vb] w fun e w'=>∃ v',e=.returned v'/\IsS w' v' (ck CQ.sub a b).1/\Below w.heap.size w w':=by
 have HC:=Ip (DX va vb a b w ha hb hG);clear ha hb hG;generalize ck CQ.sub a b=r at *
 go_enter Tryz.func174,Tryz.ntmps174;go_wp2_with fail
 refine HC.out.mono ?_;rintro e w1 ⟨v,rfl,hv,hb⟩;go_wp2;go_ret;exact⟨_,rfl,hv,hb⟩
def jC (fa fb:List ByteArray) (l:List ByteArray):Int:=if aC fa fb=true then if 32<l.length then 3 else if (l.all fun s=>bU s.data.toList)=true then 0 else 2 else 30
theorem GR (v vl:Value) (a b l:List ByteArray) (w:World) (hF:IsF w v a b) (hl:IsS w vl l) (hG:Gx w) :
  Calls Tryz.prog 85 #[v,vl] w fun e w'=>e=.returned (.int .i64 (jC a b l))/\Below w.heap.size w w':=by
 obtain⟨pl,cl,rfl,-⟩:=id hl.form;have HL:=Ip hl;have HGG:=Ip hG;clear hl;obtain⟨p,c,q,d,rfl,hfa,hfb⟩:=id hF.ex;go_enter Tryz.func85,Tryz.ntmps85;go_upto_region 1 with fail
 have cc:=aG w (.slice p a.length c) (.slice q b.length d);have m1:=aj w (.cells #[.slice p a.length c,.slice q b.length d] 24);have zz:=size_alloc w (.cells #[.slice p a.length c,.slice q b.length d] 24);generalize w.alloc (.cells #[.slice p a.length c,.slice q b.length d] 24)=w1 at *
 have HCK:=Ip (fP _ a b w1 (hF.below m1) (hG.below m1));have HA:=Ip (hfa.below m1);have HB:=Ip (hfb.below m1);have HG:=Ip (hG.below m1);have c0:=cc.1;have c1:=cc.2;have hlt:w.heap.size<w1.heap.size:=by omega
 have M1:=Ip m1;clear hfa hfb cc zz m1 hF hG;by_cases hck:aC a b=true
 ·have HT:=Ip (show jC a b l=if 32<l.length then 3 else if (l.all fun s=>bU s.data.toList)=true then 0 else 2 by unfold jC;rw[if_pos hck]);have hce:aB a b=0:=by unfold aB;rw[if_pos hck]
  rw[hce] at HCK;obtain⟨ob1,ob7,oa1,oa7,oac,obc,ohd⟩:=bv hck;clear hce;go_wp2_with fail
  refine HCK.out.mono ?_;rintro e w2 ⟨rfl,hb2⟩;have d0:=ag hb2 hlt c0;have d1:=ag hb2 hlt c1;have HA2:=Ip (HA.out.below hb2);have HB2:=Ip (HB.out.below hb2);have HG2:=Ip (HG.out.below hb2);have M2:=Ip (LK M1.out hb2);have hlt2:w.heap.size<w2.heap.size:=Iz hlt hb2.size;clear c0 c1 HA HB HG HCK M1 hb2 hlt;clear d0 d1 HA2 HB2 hlt2 oac obc ohd ob1 ob7 oa1 oa7 hck;by_cases h32:32<l.length
  ·have HE:=Ip (show jC a b l=3 by rw[HT.out,if_pos h32]);have hd:decide ((32:Int)<(l.length:Int))=true:=by simp;omega
   clear h32;go_wp2;go_ret;exact⟨by rw[HE.out];rfl,M2.out⟩
  ·rw[if_neg h32] at HT;have hd:decide ((32:Int)<(l.length:Int))=false:=by simp;omega
   go_wp2;go_loopw [18] (fun s18 wr=>∃ i:Nat,s18=.int .i64 i/\i<=l.length/\Below w.heap.size w wr/\Hid (Gx wr)/\Hid (((l.take i).all fun s=>bU s.data.toList)=true)) (fun s18 _=>l.length-(intOf s18).toNat)
   case atStart=>exact⟨0,rfl,IF _,M2.out,HG2.out,rfl⟩
   case round =>
    obtain⟨i,rfl,hin,hbr,HGr,hall⟩:=hrel;by_cases hi:i<l.length
    ·obtain⟨bb,oo,rfl,hlt,hcell⟩:=(HL.out.below hbr).get hi;have HS:=Ip (j9 hi (fun s=>bU s.data.toList));have HN:=Ip (pj hi (fun s=>bU s.data.toList));generalize l[i]=s at *
     go_wp2_with fail
     refine (rY s wr HGr.out).mono ?_;rintro e w3 ⟨ok,rfl,hok,hb3⟩;have hB3:=LK hbr hb3
     cases ok
     ·have HE:=Ip (show jC a b l=2 by rw[HT.out,if_neg (by rw[HN.out hok.out];decide)]);clear HS HN hok hall hcell hd h32;go_wp2;go_ret;exact⟨by rw[HE.out];rfl,hB3⟩
     ·have HA3:=Ip (show ((l.take (i+1)).all fun s=>bU s.data.toList)=true by rw[HS.out,hall.out,hok.out];rfl);have HG3:=Ip (HGr.out.below hb3);clear HS HN hok hall hcell hbr HGr hb3;go_wp2;go_roundw;case rel=>exact⟨i+1,by go_num,by omega,hB3,HG3,HA3⟩
      case measure=>simp[intOf]<;>omega
    ·have hin':i=l.length:=by omega
     subst hin'
     have HE:=Ip (show jC a b l=0 by
      have h:=hall.out;rw[IZ] at h
      rw[HT.out,if_pos h])
     clear hi hall hd h32;go_wp2;go_ret;exact⟨by rw[HE.out];rfl,hbr⟩
 ·have HE:=Ip (show jC a b l=30 by unfold jC;rw[if_neg hck]);have hce:aB a b=30:=by unfold aB;rw[if_neg hck]
  rw[hce] at HCK;clear hce;go_wp2_with fail
  refine HCK.out.mono ?_;rintro e w2 ⟨rfl,hb2⟩;go_wp2;go_ret;exact⟨by rw[HE.out];rfl,LK M1.out hb2⟩
def bH (fa:List ByteArray) (i:Nat):List ByteArray:=List.replicate i ⟨#[48]⟩++fa
theorem kh (fa:List ByteArray) (i:Nat):(bH fa i).length=i+fa.length:=by simp[bH]
theorem tK (fa:List ByteArray) (i:Nat):bH fa (i+1)=[⟨#[48]⟩]++bH fa i:=by simp[bH,Kj]
def fd (fa fb:List ByteArray):Nat->Nat->Nat
 | 0,i=>i
 | n+1,i=>if i+fa.length<=6 then if da (bH fa (i+1)) fb ⟨#[49]⟩=true then fd fa fb n (i+1) else i else i
theorem tL (fa fb:List ByteArray) (n i:Nat):fd fa fb (n+1) i=if i+fa.length<=6 then if da (bH fa (i+1)) fb ⟨#[49]⟩=true then fd fa fb n (i+1) else i else i:=rfl
def fB (fa fb:List ByteArray):Int×Int:=if aC fa fb=true then if da fa fb ⟨#[49]⟩=true then (((fd fa fb 7 0:Nat):Int),0) else (0,31) else (0,30)
theorem Aa (w:World) (base:Nat) (t:ByteArray) (hb:base<=w.heap.size):dh (w.alloc (.cells #[.string t] 25)) base (.slice (some ⟨w.heap.size,0,none⟩) 1 1) [t] :=
 World.ownsRow_lit w #[.string t] 1 hb (by simp[maxLen]) rfl
theorem E0 (v:Value) (a b:List ByteArray) (w:World) (hF:IsF w v a b) (hG:Gx w) :
  Calls Tryz.prog 46 #[v] w fun e w'=>e=.returned (.tuple #[.int .i64 (fB a b).1,.int .i64 (fB a b).2])/\Below w.heap.size w w':=by
 have HF0:=Ip hF;have HG0:=Ip hG;obtain⟨p,c,q,d,rfl,hfa,hfb⟩:=id hF.ex;go_enter Tryz.func46,Tryz.ntmps46;go_upto_region 1 with fail
 have q1:=heap_alloc_new w (.cells #[.slice p a.length c,.slice q b.length d] 24);have m1:=aj w (.cells #[.slice p a.length c,.slice q b.length d] 24);have z1:=size_alloc w (.cells #[.slice p a.length c,.slice q b.length d] 24);generalize w.alloc (.cells #[.slice p a.length c,.slice q b.length d] 24)=w1 at *
 have hlt:w.heap.size<w1.heap.size:=by omega
 have HCK:=Ip (fP _ a b w1 (hF.below m1) (hG.below m1));have c0:=au q1 0;have c1:=au q1 1;have M1:=Ip m1;clear hF hG z1 m1;by_cases hck:aC a b=true
 ·have HT:=Ip (show fB a b=if da a b ⟨#[49]⟩=true then (((fd a b 7 0:Nat):Int),0) else (0,31) by unfold fB;rw[if_pos hck]);have hce:aB a b=0:=by unfold aB;rw[if_pos hck]
  rw[hce] at HCK;obtain⟨ob1,ob7,oa1,oa7,-,-,-⟩:=bv hck;clear hce;go_wp2_with fail
  refine HCK.out.mono ?_;rintro e w2 ⟨rfl,hb2⟩;have q2:=(hb2.block w.heap.size hlt).trans q1;have hlt2:w.heap.size<w2.heap.size:=Iz hlt hb2.size;have M2:=Ip (LK M1.out hb2);have HH:=Ip (lM _ a b ⟨#[49]⟩ w2 (HF0.out.below M2.out) ob1 (by omega) (by omega) (HG0.out.below M2.out).g);clear q1 c0 c1 hb2 hlt M1 HCK hck;have c0:=au q2 0;have c1:=au q2 1;by_cases hh:da a b ⟨#[49]⟩=true
  ·rw[hh] at HH;have HT:=Ip (show fB a b=(((fd a b 7 0:Nat):Int),0) by rw[HT.out,if_pos hh]);clear hh;go_wp2_with fail
   refine HH.out.mono ?_;rintro e w3 ⟨rfl,hb3⟩;have q3:=(hb3.block w.heap.size hlt2).trans q2;have hlt3:w.heap.size<w3.heap.size:=Iz hlt2 hb3.size;have M3:=Ip (LK M2.out hb3);obtain⟨bb,oo,rfl,hbl,-⟩:=hfb.get (i:=0) ob1;obtain⟨ba,oa,rfl,hal,-⟩:=hfa.get (i:=0) oa1;clear q2 c0 c1 hb3 hlt2 M2 HH;go_wp2;have HA0:=Ip (hfa.below M3.out);have HBw:=Ip hfb;clear hfa hfb;have HQ3:=Ip q3;clear q3;have ha1:bH a 0=a:=rfl;have HA1:=Ip ha1;clear ha1;go_loopw [5] (fun s5 wr=>∃ (i:Nat) (px ox cx:Nat),s5=.int .i64 i/\i+a.length<=7/\wr.heap[w.heap.size]?=some (.cells #[.slice (some ⟨px,ox,none⟩) (bH a i).length cx,.slice (some ⟨bb,oo,none⟩) b.length d] 24 (0,0))/\IsS wr (.slice (some ⟨px,ox,none⟩) (bH a i).length cx) (bH a i)/\px≠w.heap.size/\Below w.heap.size w wr/\Hid (fd a b (7-i) i=fd a b 7 0)) (fun s5 _=>7-(intOf s5).toNat)
   case atStart=>exact⟨0,ba,oa,c,rfl,by omega,HQ3.out,HA0.out,by omega,M3.out,rfl⟩
   case round =>
    obtain⟨i,px,ox,cx,rfl,hi7,qr,hin,hpx,hbr,hrec⟩:=hrel;have hlr:w.heap.size<wr.heap.size:=(ID.1 qr).1;have c0:=au qr 0;have c1:=au qr 1;have hdl:=kh a i;by_cases h6:i+a.length<=6
    ·have hd:decide (((bH a i).length:Int)<=6)=true:=by rw[hdl];simp;omega
     have HDL:=Ip hdl;have hrec2:=hrec.out;rw[show 7-i=(6-i)+1 from by omega] at hrec2;rw[tL a b (6-i) i,if_pos h6] at hrec2;have HR:=Ip hrec2;clear hdl hrec2 hrec;go_upto_region 8 with fail
     refine wp_region_lit ?_;refine wpList_plain rfl (fun K hK=>?_);go_simp;refine hK _ _ ?_;clear hK K;try simp only[Act.put,It,Is,Ir,Iq,Iu,Iv]
     have m5:=aj wr (.cells #[.string ⟨#[48]⟩] 25);have ho:=Aa wr (w.heap.size+1) ⟨#[48]⟩ hlr;have z5:=size_alloc wr (.cells #[.string ⟨#[48]⟩] 25);have HI5:=hin.below m5;have q5:=(m5.block w.heap.size hlr).trans qr;have B5:=LK hbr m5;generalize wr.alloc (.cells #[.string ⟨#[48]⟩] 25)=w5 at *
     generalize Value.slice (some ⟨wr.heap.size,0,none⟩) 1 1=sv at ho |-;have c0:=au q5 0;have c1:=au q5 1;clear hin qr m5 hbr;refine wpList_plain rfl (fun K hK=>?_);go_simp;refine hK _ _ ?_;clear hK K;try simp only[Act.put,It,Is,Ir,Iq,Iu,Iv]
     refine wpList_plain rfl (fun K hK=>?_);go_simp;refine hK _ _ ?_;clear hK K;try simp only[Act.put,It,Is,Ir,Iq,Iu,Iv]
     refine gg 22 Tryz.underlying22 rfl (.tmp 18) (.tmp 20) rfl (w.heap.size+1) _ [⟨#[48]⟩] (bH a i) px ox cx rfl ho rfl HI5 (by rw[HDL.out];simp;omega) (by omega) ?_;intro v' w6 hw6 hb6;have B6:=hb6 _ _ B5 (by omega);have b6:=hb6 (w.heap.size+1) w5 (LN _ _) (Iw _);have q6:=(b6.block w.heap.size (by omega)).trans q5;rw[<-tK] at hw6
     obtain⟨g',c',rfl,hg'⟩:∃ g' c',v'=.slice (some ⟨g',0,none⟩) (bH a (i+1)).length c'/\w.heap.size+1<=g':=by
      obtain⟨hlen,h⟩:=hw6;rcases h with ⟨rfl,h0⟩ | ⟨g',cap,cur,rfl,hg',-⟩
      ·rw[kh] at h0;omega
      ·exact⟨g',cap,rfl,hg'⟩
     have HI6:=hw6.isS;have hne:Value.ownBlock (.slice (some ⟨g',0,none⟩) (bH a (i+1)).length c')≠some w.heap.size:=fun e=>by simp[Value.ownBlock] at e;omega
     have HI7:=Ip (HI6.other hne 0 (.slice (some ⟨g',0,none⟩) (bH a (i+1)).length c'));have c0:=au q6 0;have c1:=au q6 1;have f0:=aU q6 0;have B7:=Ip (B6.setCell (p:=⟨w.heap.size,0,none⟩) (Iw _) (.slice (some ⟨g',0,none⟩) (bH a (i+1)).length c'));have q7:=heap_setCell_same w6 w.heap.size 0 _ 24 (.slice (some ⟨g',0,none⟩) (bH a (i+1)).length c') q6;clear hw6 hb6 B6 b6 q5 HI5 HI6 ho hne B5 z5;try simp only[Act.put,It,Is,Ir,Iq,Iu,Iv]
     refine wpList_plain rfl (fun K hK=>?_);go_simp;refine hK _ _ ?_;clear hK K;try simp only[Act.put,It,Is,Ir,Iq,Iu,Iv]
     refine wpList_plain rfl (fun K hK=>?_);go_simp;refine hK _ _ ?_;clear hK K;try simp only[Act.put,It,Is,Ir,Iq,Iu,Iv]
     generalize w6.setCell ⟨w.heap.size,0,none⟩ (.slice (some ⟨g',0,none⟩) (bH a (i+1)).length c')=w7 at *
     have q7:w7.heap[w.heap.size]?=some (.cells #[.slice (some ⟨g',0,none⟩) (bH a (i+1)).length c',.slice (some ⟨bb,oo,none⟩) b.length d] 24 (0,0)):=q7;clear c0 c1 f0 q6;have c0:=au q7 0;have c1:=au q7 1;have hl7:=(ID.1 q7).1;have hF7:IsF w7 (.agg #[.slice (some ⟨g',0,none⟩) (bH a (i+1)).length c',.slice (some ⟨bb,oo,none⟩) b.length d]) (bH a (i+1)) b:=⟨_,_,_,_,rfl,HI7.out,HBw.out.below B7.out⟩;have HH:=Ip (lM _ (bH a (i+1)) b ⟨#[49]⟩ w7 hF7 ob1 (by rw[kh];omega) (by omega) (HG0.out.below B7.out).g);clear hF7;by_cases hh:da (bH a (i+1)) b ⟨#[49]⟩=true
     ·rw[hh] at HH
      have HR:=Ip (show fd a b (7-(i+1)) (i+1)=fd a b 7 0 by
       have h:=HR.out;rw[if_pos hh] at h
       rw[show 7-(i+1)=6-i from by omega];exact h)
      clear hh;go_wp2_with fail
      refine HH.out.mono ?_;rintro e w8 ⟨rfl,hb8⟩;have q8:=Ip ((hb8.block w.heap.size hl7).trans q7);have HI8:=Ip (HI7.out.below hb8);have B8:=Ip (LK B7.out hb8);clear hb8 q7 c0 c1 HH;go_wp2;go_roundw;case rel=>exact⟨i+1,g',0,c',by go_num,by omega,q8.out,HI8.out,by omega,B8.out,HR.out⟩
      case measure=>simp[intOf]<;>omega
     ·have hh':da (bH a (i+1)) b ⟨#[49]⟩=false:=by simpa using hh
      rw[hh'] at HH
      have HE:=Ip (show fB a b=(((i:Nat):Int),0) by
       have h:=HR.out;rw[if_neg hh] at h
       rw[HT.out,<-h])
      clear hh hh';go_wp2_with fail
      refine HH.out.mono ?_;rintro e w8 ⟨rfl,hb8⟩;have B8:=Ip (LK B7.out hb8);clear hb8 q7 c0 c1 HH;go_wp2;refine LM (v:=.tuple #[.int .i64 i,.int .i64 0]) (by simp[results,Tryz.results46,go_sem]) rfl ⟨by rw[HE.out],B8.out⟩
    ·have hd:decide (((bH a i).length:Int)<=6)=false:=by rw[hdl];simp;omega
     have HE:=Ip (show fB a b=(((i:Nat):Int),0) by
      rw[HT.out,<-hrec.out]
      have e:∀ n,fd a b n i=i:=by intro n;cases n with
       | zero=>rfl
       | succ n=>simp only[fd,if_neg h6]
      rw[e])
     clear hdl hrec h6 hin;go_wp2;refine LM (v:=.tuple #[.int .i64 i,.int .i64 0]) (by simp[results,Tryz.results46,go_sem]) rfl ⟨by rw[HE.out],hbr⟩
  ·have hh':da a b ⟨#[49]⟩=false:=by simpa using hh
   rw[hh'] at HH;have HE:=Ip (show fB a b=(0,31) by rw[HT.out,if_neg hh]);clear hh hh' HT;go_wp2_with fail
   refine HH.out.mono ?_;rintro e w3 ⟨rfl,hb3⟩;go_wp2;refine LM (v:=.tuple #[.int .i64 0,.int .i64 31]) (by simp[results,Tryz.results46,go_sem]) rfl ⟨by rw[HE.out],LK M2.out hb3⟩
 ·have HE:=Ip (show fB a b=(0,30) by unfold fB;rw[if_neg hck]);have hce:aB a b=30:=by unfold aB;rw[if_neg hck]
  rw[hce] at HCK;clear hce;go_wp2_with fail
  refine HCK.out.mono ?_;rintro e w2 ⟨rfl,hb2⟩;go_wp2;refine LM (v:=.tuple #[.int .i64 0,.int .i64 30]) (by simp[results,Tryz.results46,go_sem]) rfl ⟨by rw[HE.out],LK M1.out hb2⟩
theorem kF {s:Int}{p:Int×Int}{k:Int} (h0:0<=p.1) (h1:p.1<=k):0<=(jV s p).1/\(jV s p).1<=k+1:=by
 unfold jV
 split
 ·exact⟨h0,by omega⟩
 ·split<;>exact⟨by simp only;omega,by simp only;omega⟩
theorem kc {zs:List CQ} (h:fO zs) (x:Rat):0<=dU zs x/\dU zs x<=2:=by
 cases h with
 | one c h =>
  have:=kF (s:=lD x [c]) (p:=(0,0)) (k:=0) (by decide) (by decide)
  show 0<=(jV (lD x [c]) (0,0)).1/\(jV (lD x [c]) (0,0)).1<=2
  omega
 | two a c h =>
  have h1:=kF (s:=lD x [a,c]) (p:=(0,0)) (k:=0) (by decide) (by decide);have h2:=kF (s:=lD x [c]) (p:=jV (lD x [a,c]) (0,0)) (k:=1) h1.1 (by omega);exact⟨h2.1,h2.2⟩
theorem Gu (v:Value) (lo hi:ByteArray) (l:List ByteArray) (zs:List CQ) (x y:Rat) (w:World) (hl:IsS w v l) (hG:Gw w) (hpz:dY l=.ok zs) (h2:fO zs) (hs:SzL 300 zs) (hre:kD zs=true)
  (hr:fV [lo,hi]=.ok [x,y]) (hsx:Sz 2000 (rt x)) (hsy:Sz 2000 (rt y)) (hxy:eL x y<=0) :
  Calls Tryz.prog 130 #[v,.string lo,.string hi] w fun e w'=>e=.returned (.tuple #[.int .i64 (dU zs x-dU zs y),.int .i64 0])/\Below w.heap.size w w':=by
 obtain⟨p,c,rfl,-⟩:=id hl.form;have HPO:=Ip (oV _ l w hl hG);have hzl:zs.length<1000000:=by cases h2<;>simp
 go_enter Tryz.func130,Tryz.ntmps130;go_wp2_with fail
 refine HPO.out.mono ?_;rintro e w1 ⟨v1,x1,rfl,hres,hb1⟩;rw[hpz] at hres;obtain⟨rfl,hp1⟩:=hres;obtain⟨p1,c1,rfl,-⟩:=id hp1.form;have m2:=aj w1 (.cells #[.string lo,.string hi] 25);have HRE:=Ip (Ei _ [lo,hi] _ (IsS.two w1 lo hi) (by simp) ((hG.below hb1).below m2));have HP1:=Ip (hp1.below m2);have HB1:=Ip (LK hb1 m2);clear hp1 hb1 m2 hl HPO hpz;go_wp2_with fail
 refine HRE.out.mono ?_;rintro e w2 ⟨v2,err,rfl,hcase,hb2⟩;rw[hr] at hcase;rcases hcase with ⟨qs,hq,rfl,hlq⟩ | ⟨hq,-⟩
 ·obtain rfl:[x,y]=qs:=by simpa using hq
  obtain⟨p2,c2,rfl,-⟩:=id hlq.form;have HP2:=Ip (HP1.out.below hb2);have HB2:=Ip (LK HB1.out hb2);have HLQ:=Ip hlq;have HAR:=Ip (Cv _ zs w2 HP2.out hzl);rw[hre] at HAR;clear hq hlq hb2 HP1 HB1 HRE hr hre;go_wp2_with fail
  refine HAR.out.mono ?_;rintro e w3 ⟨v3,rfl,hb3⟩;have HP3:=Ip (HP2.out.below hb3);have HB3:=Ip (LK HB2.out hb3);have HLQ:=Ip (HLQ.out.below hb3);clear hb3 HP2 HB2 HAR;have hne:((zs.length:Int) == 0)=false:=by cases h2<;>simp
  go_upto_region 12 with fail
  clear hne;obtain⟨b,o,rfl,hbl,xm,xp,xl,xc,xq,xk,xd,hx,c0,c1',c2'⟩:=HLQ.out.get (i:=0) (by simp);obtain⟨b',o',he,hbl',ym,yp,yl,yc,yq,yk,yd,hy,d0,d1,d2⟩:=HLQ.out.get (i:=1) (by simp);obtain⟨rfl,rfl⟩:b=b'/\o=o':=by simpa using he
  clear he hbl';simp only[Ir,Is,JE,I7,JV] at hx hy c0 c1' c2' d0 d1 d2;have m4:Below w3.heap.size w3 w3.drew:=(LN _ _).drew;obtain⟨cm,hcm⟩:∃ z,z=eL x y:=⟨_,rfl⟩;have hcmp:=pF _ _ _ _ _ (hx.v.below m4) (hy.v.below m4) (dQ x) (dQ y) (hx.s.fewR hy.s (by decide)).f1 (hx.s.fewR hy.s (by decide)).f2 (hx.s.fewR hy.s (by decide)).f3 (hx.s.fewR hy.s (by decide)).f4;rw[tH,<-hcm] at hcmp;rw[<-hcm] at hxy;have HC:=Ip hcmp;have hd:decide (0<cm)=false:=decide_eq_false (by omega);refine av (fun w'=>∃ x:az w3.heap.size w3.drew,w'=x.w) (fun i=>i == 6) (by kernel_rfl) (by kernel_rfl) ⟨⟨_,LN _ _⟩,rfl⟩ ?_;have g0:=fun x:az w3.heap.size w3.drew=>ag (m4.trans x.h) hbl c0;have g1:=fun x:az w3.heap.size w3.drew=>ag (m4.trans x.h) hbl c1';have g2:=fun x:az w3.heap.size w3.drew=>ag (m4.trans x.h) hbl c2';have g3:=fun x:az w3.heap.size w3.drew=>ag (m4.trans x.h) hbl d0;have g4:=fun x:az w3.heap.size w3.drew=>ag (m4.trans x.h) hbl d1;have g5:=fun x:az w3.heap.size w3.drew=>ag (m4.trans x.h) hbl d2;have HB4:=Ip (LK HB3.out m4);have HP4:=Ip (HP3.out.below m4);have HX:=Ip (hx.below m4);have HY:=Ip (hy.below m4);have hz:w3.heap.size<=w3.drew.heap.size:=m4.size;have e0:=ag m4 hbl c0;have e1:=ag m4 hbl c1';have e2:=ag m4 hbl c2';have e3:=ag m4 hbl d0;have e4:=ag m4 hbl d1;have e5:=ag m4 hbl d2
  have HE:=Ip (And.intro (Iz hbl m4.size) (And.intro e0 (And.intro e1 (And.intro e2 (And.intro e3 (And.intro e4 e5))))));clear c0 c1' c2' d0 d1 d2 hx hy m4 hcmp hcm HLQ HB3 HP3 e0 e1 e2 e3 e4 e5 hxy;generalize w3.drew=wd at *
  refine ak 6 0 _ _ _ (by kernel_rfl) ?_;simp only[Ix,IC,Iy,IA];repeat (go_big_quiet_step (fail))
  refine wpQuiet_nil ?_;refine ap rfl rfl (fun K hK=>?_);go_simp;refine HC.out.mono ?_;rintro e w5 ⟨rfl,hb5⟩;refine hK _ _ ⟨⟨_,hb5.mono hz⟩,rfl⟩ ?_;clear hK K;try simp only[Act.put,It,Is,Ir,Iq,Iu,Iv]
  refine ak 2 7 _ _ _ (by kernel_rfl) ?_;simp only[Ix,IC,Iy,IA];repeat (go_big_quiet_step (fail))
  refine wpQuiet_nil ?_;refine aE ?_;have HP5:=Ip (HP4.out.below hb5);have HB5:=Ip (LK HB4.out hb5);have HX:=Ip (HX.out.below hb5);have HY:=Ip (HY.out.below hb5);obtain⟨hbl,e0,e1,e2,e3,e4,e5⟩:=HE.out;have HE:=Ip (And.intro (Iz hbl hb5.size) (And.intro (ag hb5 hbl e0) (And.intro (ag hb5 hbl e1) (And.intro (ag hb5 hbl e2) (And.intro (ag hb5 hbl e3) (And.intro (ag hb5 hbl e4) (ag hb5 hbl e5)))))));clear g0 g1 g2 g3 g4 g5 HC HB4 HP4 hb5 hbl e0 e1 e2 e3 e4 e5 hz
  have HDER:=Ip (vv _ zs w5 HP5.out (fun z hz n hn=>by
   rw[<-dA]
   exact ((hs z hz).times (uC (by omega))).mono (by decide)) (by cases h2<;>simp))
  go_wp2_with fail
  refine HDER.out.mono ?_;rintro e w6 ⟨v6,rfl,hv6,hb6⟩;have HP6:=Ip (HP5.out.below hb6);go_wp2_with fail
  refine (Fg _ _ zs (AV zs) w6 HP6.out hv6 (h2.pair hs)).mono ?_;rintro e w7 ⟨v7,rfl,hv7,hb7⟩;have hB7:=LK hb6 hb7;have HP7:=Ip (HP5.out.below hB7);obtain⟨p7,c7,rfl,-⟩:=id hv7.form;go_wp2_with fail
  refine (yx _ _ zs (CQ.real 1) w7 HP7.out hv7 CQ.one_ne (by cases h2<;>simp) (by cases h2<;>simp) hs (q_ (by decide))).mono ?_;rintro e w8 ⟨v8,v8',rfl,hv8,-,hb8⟩;rw[D9,h2.lean] at hv8;have hB8:=LK hB7 hb8;have HB8:=Ip (LK HB5.out hB8);have HV8:=Ip hv8;have HX:=Ip (HX.out.below hB8);have HY:=Ip (HY.out.below hB8);obtain⟨hbl,e0,e1,e2,e3,e4,e5⟩:=HE.out;have e0:=ag hB8 hbl e0;have e1:=ag hB8 hbl e1;have e2:=ag hB8 hbl e2;have e3:=ag hB8 hbl e3;have e4:=ag hB8 hbl e4;have e5:=ag hB8 hbl e5;have hbl:=Iz hbl hB8.size;clear HP5 HB5 HP6 HP7 hv6 hv7 hv8 hb6 hb7 hb8 hB7 hB8 HDER HE;go_upto_region 15 with fail
  have m4:Below w8.heap.size w8 w8.drew:=(LN _ _).drew;refine av (fun w'=>∃ x:az w8.heap.size w8.drew,w'=x.w) (fun i=>i == 4||i == 9) (by kernel_rfl) (by kernel_rfl) ⟨⟨_,LN _ _⟩,rfl⟩ ?_;have g0:=fun x:az w8.heap.size w8.drew=>ag (m4.trans x.h) hbl e0;have g1:=fun x:az w8.heap.size w8.drew=>ag (m4.trans x.h) hbl e1;have g2:=fun x:az w8.heap.size w8.drew=>ag (m4.trans x.h) hbl e2;have g3:=fun x:az w8.heap.size w8.drew=>ag (m4.trans x.h) hbl e3;have g4:=fun x:az w8.heap.size w8.drew=>ag (m4.trans x.h) hbl e4;have g5:=fun x:az w8.heap.size w8.drew=>ag (m4.trans x.h) hbl e5;have HBF:=Ip (LK HB8.out m4);have HVF:=Ip (HV8.out.below m4);have HXF:=Ip (HX.out.below m4);have HYF:=Ip (HY.out.below m4);have hz:w8.heap.size<=w8.drew.heap.size:=m4.size;have hr1:=kc h2 x;have hr2:=kc h2 y;obtain⟨n1,hn1⟩:∃ n,n=dU zs x:=⟨_,rfl⟩;obtain⟨n2,hn2⟩:∃ n,n=dU zs y:=⟨_,rfl⟩;rw[<-hn1] at hr1;rw[<-hn2] at hr2;have HN:=Ip (And.intro hn1 hn2);clear e0 e1 e2 e3 e4 e5 m4 HB8 HV8 HX HY hn1 hn2;generalize w8.drew=wd at *
  refine ak 4 0 _ _ _ (by kernel_rfl) ?_;simp only[Ix,IC,Iy,IA];repeat (go_big_quiet_step (fail))
  refine wpQuiet_nil ?_;refine ap rfl rfl (fun K hK=>?_);go_simp;refine (uT _ _ zs x wd HVF.out HXF.out.v hsx h2 hs).mono ?_;rintro e w9 ⟨rfl,hb9⟩;rw[<-HN.out.1];refine hK _ _ ⟨⟨_,hb9.mono hz⟩,rfl⟩ ?_;clear hK K;try simp only[Act.put,It,Is,Ir,Iq,Iu,Iv]
  refine ak 4 5 _ _ _ (by kernel_rfl) ?_;simp only[Ix,IC,Iy,IA];repeat (go_big_quiet_step (fail))
  refine wpQuiet_nil ?_;refine ap rfl rfl (fun K hK=>?_);go_simp;refine (uT _ _ zs y w9 (HVF.out.below hb9) (HYF.out.below hb9).v hsy h2 hs).mono ?_;rintro e w10 ⟨rfl,hb10⟩;rw[<-HN.out.2];have hB10:=LK hb9 hb10;refine hK _ _ ⟨⟨_,hB10.mono hz⟩,rfl⟩ ?_;clear hK K;try simp only[Act.put,It,Is,Ir,Iq,Iu,Iv]
  refine ak 3 10 _ _ _ (by kernel_rfl) ?_;simp only[Ix,IC,Iy,IA];repeat (go_big_quiet_step (fail))
  refine wpQuiet_nil ?_;refine aE ?_;have HF:=Ip (LK HBF.out hB10);clear g0 g1 g2 g3 g4 g5 hb9 hb10 hB10 HBF HVF HXF HYF;go_wp2;refine LM (v:=.tuple #[.int .i64 (n1-n2),.int .i64 0]) (by simp[results,Tryz.results130,go_sem]) rfl ⟨by rw[HN.out.1,HN.out.2],HF.out⟩
 ·cases hq
theorem Al {a b:List ByteArray}{i:Nat} (h:a.take i=b.take i) (hi:i<a.length) (hib:i<b.length) (he:a[i]=b[i]):a.take (i+1)=b.take (i+1):=by
 rw[<-IL hi,<-IL hib,h,he]
theorem GP (va vb:Value) (a b:List ByteArray) (w:World) (ha:IsS w va a) (hb:IsS w vb b) (hal:a.length<1000000) (hbl:b.length<1000000) :
  Calls Tryz.prog 78 #[va,vb] w fun e w'=>e=.returned (.bool (decide (a=b)))/\Below w.heap.size w w':=by
 obtain⟨pa,ca,rfl,-⟩:=id ha.form;obtain⟨pb,cb,rfl,-⟩:=id hb.form;have HA:=Ip ha;have HB:=Ip hb;clear ha hb;go_enter Tryz.func78,Tryz.ntmps78;by_cases hle:a.length=b.length
 ·have hd:((a.length:Int) != (b.length:Int))=false:=by simp[hle]
  have HL:=Ip hle;clear hle;go_wp2;go_loopw [13] (fun s13 wr=>∃ i:Nat,s13=.int .i64 i/\i<=a.length/\Below w.heap.size w wr/\Hid (a.take i=b.take i)) (fun s13 _=>a.length-(intOf s13).toNat)
  case atStart=>exact⟨0,rfl,IF _,LN _ _,rfl⟩
  case round =>
   obtain⟨i,rfl,hin,hbr,heq⟩:=hrel;by_cases hi:i<a.length
   ·have hib:i<b.length:=by rw[<-HL.out];exact hi
    obtain⟨ba,oa,rfl,hba,hca⟩:=(HA.out.below hbr).get hi;obtain⟨bb,ob,rfl,hbb,hcb⟩:=(HB.out.below hbr).get hib;have HT:=Ip (fun h:a[i]=b[i]=>Al heq.out hi hib h);have HN:=Ip (fun (h:a[i]≠b[i]) (hab:a=b)=>h (by subst hab;rfl));generalize a[i]=x at *
    generalize b[i]=y at *
    by_cases hxy:x=y
    ·subst hxy;have HT:=Ip (HT.out rfl);clear HN heq;go_upto_region 6 with fail
     have m4:Below wr.heap.size wr wr.drew:=(LN _ _).drew;refine av (fun w'=>∃ x:az wr.heap.size wr.drew,w'=x.w) (fun _=>false) (by kernel_rfl) (by kernel_rfl) ⟨⟨_,LN _ _⟩,rfl⟩ ?_;have hbw:=LK hbr m4;have c0:=fun x:az wr.heap.size wr.drew=>ag (m4.trans x.h) hba hca;have c1:=fun x:az wr.heap.size wr.drew=>ag (m4.trans x.h) hbb hcb;clear hca hcb m4 hbr;generalize wr.drew=wd at *
     refine ak 9 0 _ _ _ (by kernel_rfl) ?_;simp only[Ix,IC,Iy,IA];repeat (go_big_quiet_step (fail))
     refine wpQuiet_nil ?_;refine aE ?_;clear c0 c1;go_wp2;go_roundw;case rel=>exact⟨i+1,by go_num,by omega,hbw,HT.out⟩
     case measure=>simp[intOf]<;>omega
    ·have hd3:(x.toList == y.toList)=false:=by
      refine Ji.2 fun hb=>hxy ?_;have e:x.toList=y.toList:=by simpa using hb
      rw[aw,aw] at e;exact (jy e).trans (jy rfl).symm
     have HF:=Ip (show decide (a=b)=false from decide_eq_false (HN.out hxy));clear HN HT heq hxy;go_upto_region 6 with fail
     have m4:Below wr.heap.size wr wr.drew:=(LN _ _).drew;refine av (fun w'=>∃ x:az wr.heap.size wr.drew,w'=x.w) (fun _=>false) (by kernel_rfl) (by kernel_rfl) ⟨⟨_,LN _ _⟩,rfl⟩ ?_;have hbw:=LK hbr m4;have c0:=fun x:az wr.heap.size wr.drew=>ag (m4.trans x.h) hba hca;have c1:=fun x:az wr.heap.size wr.drew=>ag (m4.trans x.h) hbb hcb;clear hca hcb m4 hbr;generalize wr.drew=wd at *
     refine ak 9 0 _ _ _ (by kernel_rfl) ?_;simp only[Ix,IC,Iy,IA];repeat (go_big_quiet_step (fail))
     refine wpQuiet_nil ?_;refine aE ?_;clear c0 c1;go_wp2;go_ret;exact⟨by rw[HF.out];rfl,hbw⟩
   ·have hin':i=a.length:=by omega
    subst hin';have HF:=Ip (show decide (a=b)=true from decide_eq_true (by have h:=heq.out;rw[IZ,HL.out,IZ] at h;exact h));clear hi heq;go_wp2;go_ret;exact⟨by rw[HF.out];rfl,hbr⟩
 ·have hd:((a.length:Int) != (b.length:Int))=true:=by simp;omega
  have HF:=Ip (show decide (a=b)=false from decide_eq_false (fun h=>hle (by rw[h])));clear hle;go_wp2;go_ret;exact⟨by rw[HF.out];rfl,LN _ _⟩
theorem li (va vb:Value) (a b:List ByteArray) (w:World) (ha:IsS w va a) (hb:IsS w vb b) (hal:a.length<1000000) (hbl:b.length<1000000) :
  Calls Tryz.prog 39 #[va,vb] w fun e w'=>e=.returned (.bool (decide (a=b)))/\Below w.heap.size w w':=by
 obtain⟨pa,ca,rfl,-⟩:=id ha.form;obtain⟨pb,cb,rfl,-⟩:=id hb.form;have HA:=Ip ha;have HB:=Ip hb;clear ha hb;go_enter Tryz.func39,Tryz.ntmps39;by_cases hle:a.length=b.length
 ·have hd:((a.length:Int) != (b.length:Int))=false:=by simp[hle]
  have HL:=Ip hle;clear hle;go_wp2;go_loopw [5] (fun s5 wr=>∃ i:Nat,s5=.int .i64 i/\i<=a.length/\Below w.heap.size w wr/\Hid (a.take i=b.take i)) (fun s5 _=>a.length-(intOf s5).toNat)
  case atStart=>exact⟨0,rfl,IF _,LN _ _,rfl⟩
  case round =>
   obtain⟨i,rfl,hin,hbr,heq⟩:=hrel;by_cases hi:i<a.length
   ·have hib:i<b.length:=by rw[<-HL.out];exact hi
    obtain⟨ba,oa,rfl,hba,hca⟩:=(HA.out.below hbr).get hi;obtain⟨bb,ob,rfl,hbb,hcb⟩:=(HB.out.below hbr).get hib;have HT:=Ip (fun h:a[i]=b[i]=>Al heq.out hi hib h);have HN:=Ip (fun (h:a[i]≠b[i]) (hab:a=b)=>h (by subst hab;rfl));generalize a[i]=x at *
    generalize b[i]=y at *
    by_cases hxy:x=y
    ·subst hxy;have HT:=Ip (HT.out rfl);clear HN heq;go_upto_region 6 with fail
     have m4:Below wr.heap.size wr wr.drew:=(LN _ _).drew;refine av (fun w'=>∃ x:az wr.heap.size wr.drew,w'=x.w) (fun _=>false) (by kernel_rfl) (by kernel_rfl) ⟨⟨_,LN _ _⟩,rfl⟩ ?_;have hbw:=LK hbr m4;have c0:=fun x:az wr.heap.size wr.drew=>ag (m4.trans x.h) hba hca;have c1:=fun x:az wr.heap.size wr.drew=>ag (m4.trans x.h) hbb hcb;clear hca hcb m4 hbr;generalize wr.drew=wd at *
     refine ak 9 0 _ _ _ (by kernel_rfl) ?_;simp only[Ix,IC,Iy,IA];repeat (go_big_quiet_step (fail))
     refine wpQuiet_nil ?_;refine aE ?_;clear c0 c1;go_wp2;go_roundw;case rel=>exact⟨i+1,by go_num,by omega,hbw,HT.out⟩
     case measure=>simp[intOf]<;>omega
    ·have hd3:(x.toList == y.toList)=false:=by
      refine Ji.2 fun hb=>hxy ?_;have e:x.toList=y.toList:=by simpa using hb
      rw[aw,aw] at e;exact (jy e).trans (jy rfl).symm
     have HF:=Ip (show decide (a=b)=false from decide_eq_false (HN.out hxy));clear HN HT heq hxy;go_upto_region 6 with fail
     have m4:Below wr.heap.size wr wr.drew:=(LN _ _).drew;refine av (fun w'=>∃ x:az wr.heap.size wr.drew,w'=x.w) (fun _=>false) (by kernel_rfl) (by kernel_rfl) ⟨⟨_,LN _ _⟩,rfl⟩ ?_;have hbw:=LK hbr m4;have c0:=fun x:az wr.heap.size wr.drew=>ag (m4.trans x.h) hba hca;have c1:=fun x:az wr.heap.size wr.drew=>ag (m4.trans x.h) hbb hcb;clear hca hcb m4 hbr;generalize wr.drew=wd at *
     refine ak 9 0 _ _ _ (by kernel_rfl) ?_;simp only[Ix,IC,Iy,IA];repeat (go_big_quiet_step (fail))
     refine wpQuiet_nil ?_;refine aE ?_;clear c0 c1;go_wp2;go_ret;exact⟨by rw[HF.out];rfl,hbw⟩
   ·have hin':i=a.length:=by omega
    subst hin';have HF:=Ip (show decide (a=b)=true from decide_eq_true (by have h:=heq.out;rw[IZ,HL.out,IZ] at h;exact h));clear hi heq;go_wp2;go_ret;exact⟨by rw[HF.out];rfl,hbr⟩
 ·have hd:((a.length:Int) != (b.length:Int))=true:=by simp;omega
  have HF:=Ip (show decide (a=b)=false from decide_eq_false (fun h=>hle (by rw[h])));clear hle;go_wp2;go_ret;exact⟨by rw[HF.out];rfl,LN _ _⟩
theorem Gq (va vb:Value) (a b c d:List ByteArray) (w:World) (ha:IsF w va a b) (hb:IsF w vb c d) (h1:a.length<1000000) (h2:b.length<1000000) (h3:c.length<1000000) (h4:d.length<1000000) :
  Calls Tryz.prog 43 #[va,vb] w fun e w'=>e=.returned (.bool (decide (a=c)&&decide (b=d)))/\Below w.heap.size w w':=by
 obtain⟨p,x,q,y,rfl,hfa,hfb⟩:=id ha.ex;obtain⟨p',x',q',y',rfl,hfc,hfd⟩:=id hb.ex;go_enter Tryz.func43,Tryz.ntmps43;go_upto_region 1 with fail
 have cc:=aG w (.slice p a.length x) (.slice q b.length y);have m1:=aj w (.cells #[.slice p a.length x,.slice q b.length y] 24);have z1:=size_alloc w (.cells #[.slice p a.length x,.slice q b.length y] 24);generalize w.alloc (.cells #[.slice p a.length x,.slice q b.length y] 24)=w1 at *
 have dd:=aG w1 (.slice p' c.length x') (.slice q' d.length y');have m2:=aj w1 (.cells #[.slice p' c.length x',.slice q' d.length y'] 24);have z2:=size_alloc w1 (.cells #[.slice p' c.length x',.slice q' d.length y'] 24);have b0:=ag m2 (show w.heap.size<w1.heap.size by omega) cc.1;have b1:=ag m2 (show w.heap.size<w1.heap.size by omega) cc.2;generalize w1.alloc (.cells #[.slice p' c.length x',.slice q' d.length y'] 24)=w2 at *
 rw[z1] at dd;have d0:=dd.1;have d1:=dd.2;have M2:=Ip (LK m1 m2);have H1:=Ip (li _ _ a c w2 (hfa.below M2.out) (hfc.below M2.out) h1 h3);have H2:=Ip (fun wx (h:Below w2.heap.size w2 wx)=>li _ _ b d wx ((hfb.below M2.out).below h) ((hfd.below M2.out).below h) h2 h4);have hl1:w.heap.size<w2.heap.size:=by omega
 have hl2:w.heap.size+1<w2.heap.size:=by omega
 clear cc dd m1 m2 z1 z2 hfa hfb hfc hfd ha hb;by_cases h:a=c
 ·have hd:decide (a=c)=true:=decide_eq_true h;obtain⟨bb,hbb⟩:∃ bb,bb=decide (b=d):=⟨_,rfl⟩;have HE:=Ip (show (decide (a=c)&&decide (b=d))=bb by rw[hd,hbb];rfl);rw[hd] at H1;rw[<-hbb] at H2;clear h hd hbb;go_wp2_with fail
  refine H1.out.mono ?_;rintro e w3 ⟨rfl,hb3⟩;have e0:=ag hb3 hl1 b0;have e1:=ag hb3 hl1 b1;have g0:=ag hb3 hl2 d0;have g1:=ag hb3 hl2 d1;clear b0 b1 d0 d1;go_wp2_with fail
  refine (H2.out w3 hb3).mono ?_;rintro e w4 ⟨rfl,hb4⟩;go_wp2;go_ret;exact⟨by rw[HE.out];rfl,LK M2.out (LK hb3 hb4)⟩
 ·have hd:decide (a=c)=false:=decide_eq_false h;have HE:=Ip (show (decide (a=c)&&decide (b=d))=false by rw[hd];rfl);rw[hd] at H1;clear h hd;go_wp2_with fail
  refine H1.out.mono ?_;rintro e w3 ⟨rfl,hb3⟩;go_wp2;go_ret;exact⟨by rw[HE.out];rfl,LK M2.out hb3⟩
def a8:List ByteArray:=[⟨#[48]⟩,⟨#[49,47,50]⟩]
def a_:List ByteArray:=[⟨#[49]⟩,⟨#[45,49,47,50]⟩]
theorem zR (w:World) (s t:ByteArray):IsS (w.alloc (.cells #[.string s,.string t] 25)) (.slice (some ⟨w.heap.size,0,none⟩) 2 2) [s,t] :=
 dh.isS (base:=0) (World.ownsRow_lit w #[.string s,.string t] 2 (IF _) (by simp[maxLen]) rfl)
theorem H_ (w:World):Calls Tryz.prog 35 #[] w fun e w'=>∃ v,e=.returned v/\IsF w' v a8 a_/\Below w.heap.size w w':=by
 go_enter Tryz.func35,Tryz.ntmps35;go_upto_region 1 with fail
 have q1:=heap_alloc_new w (.cells #[.slice none 0 0,.slice none 0 0] 24);have m1:=aj w (.cells #[.slice none 0 0,.slice none 0 0] 24);have z1:=size_alloc w (.cells #[.slice none 0 0,.slice none 0 0] 24);generalize w.alloc (.cells #[.slice none 0 0,.slice none 0 0] 24)=w1 at *
 have i2:=zR w1 ⟨#[48]⟩ ⟨#[49,47,50]⟩;have m2:=aj w1 (.cells #[.string ⟨#[48]⟩,.string ⟨#[49,47,50]⟩] 25);have z2:=size_alloc w1 (.cells #[.string ⟨#[48]⟩,.string ⟨#[49,47,50]⟩] 25);have i3:=zR (w1.alloc (.cells #[.string ⟨#[48]⟩,.string ⟨#[49,47,50]⟩] 25)) ⟨#[49]⟩ ⟨#[45,49,47,50]⟩;have m3:=aj (w1.alloc (.cells #[.string ⟨#[48]⟩,.string ⟨#[49,47,50]⟩] 25)) (.cells #[.string ⟨#[49]⟩,.string ⟨#[45,49,47,50]⟩] 25);have q2:=(m2.block w.heap.size (by omega)).trans q1;have q3:=(m3.block w.heap.size (by omega)).trans q2;have c0:=au q3 0;have c1:=au q3 1;have f0:=aU q3 0;have f1:=aU q3 1;have i2:=i2.below m3;have M2:=LK m1 m2;have M3:=LK M2 m3;rw[z1] at i2;rw[z2,z1] at i3;have n1:Value.ownBlock (.slice (some ⟨w.heap.size+1,0,none⟩) 2 2)≠some w.heap.size:=fun e=>by simp[Value.ownBlock] at e
 have n2:Value.ownBlock (.slice (some ⟨w.heap.size+1+1,0,none⟩) 2 2)≠some w.heap.size:=fun e=>by simp[Value.ownBlock] at e;omega
 clear m1 m2 m3 q1 q2 z2 M2;refine wp_region_lit ?_;refine wpList_plain rfl (fun K hK=>?_);go_simp;refine hK _ _ ?_;clear hK K;try simp only[Act.put,It,Is,Ir,Iq,Iu,Iv]
 refine wpList_plain rfl (fun K hK=>?_);go_simp;refine hK _ _ ?_;clear hK K;try simp only[Act.put,It,Is,Ir,Iq,Iu,Iv]
 try rw[z1]
 generalize (w1.alloc (.cells #[.string ⟨#[48]⟩,.string ⟨#[49,47,50]⟩] 25)).alloc (.cells #[.string ⟨#[49]⟩,.string ⟨#[45,49,47,50]⟩] 25)=w3 at *
 clear z1;have I2:=Ip ((i2.other n1 0 (.slice (some ⟨w.heap.size+1,0,none⟩) 2 2)).other n1 1 (.slice (some ⟨w.heap.size+1+1,0,none⟩) 2 2));have I3:=Ip ((i3.other n2 0 (.slice (some ⟨w.heap.size+1,0,none⟩) 2 2)).other n2 1 (.slice (some ⟨w.heap.size+1+1,0,none⟩) 2 2));have BB:=Ip ((M3.setCell (p:=⟨w.heap.size,0,none⟩) (Iw _) (.slice (some ⟨w.heap.size+1,0,none⟩) 2 2)).setCell (p:=⟨w.heap.size,1,none⟩) (Iw _) (.slice (some ⟨w.heap.size+1+1,0,none⟩) 2 2));have q4:=el q3 (.slice (some ⟨w.heap.size+1,0,none⟩) 2 2) (.slice (some ⟨w.heap.size+1+1,0,none⟩) 2 2);have s0:_=some (Value.slice (some ⟨w.heap.size+1,0,none⟩) 2 2):=au q4 0;have s1:_=some (Value.slice (some ⟨w.heap.size+1+1,0,none⟩) 2 2):=au q4 1;have r0:=Ip s0;have r1:=Ip s1;clear i2 i3 M3 q3 q4 n1 n2 s0 s1;go_wp2;have s0:=r0.out;have s1:=r1.out;refine LM (v:=.agg #[(.slice (some ⟨w.heap.size+1,0,none⟩) 2 2),(.slice (some ⟨w.heap.size+1+1,0,none⟩) 2 2)]) (by simp[results,Tryz.results35,go_sem,s0,s1]) rfl ⟨_,rfl,⟨⟨_,_,_,_,rfl,I2.out,I3.out⟩⟩,BB.out⟩
def dj (r:Bool) (a b:List ByteArray) (x y:ByteArray):Bool×Int:=if aC a b=true then if bU x.data.toList=true then if bU y.data.toList=true then if 0<jZ x y then (false,8) else (r,0) else (false,2) else (false,2) else (false,30)
theorem Cd (r:Bool) (v:Value) (a b:List ByteArray) (x y:ByteArray) (w:World) (hF:IsF w v a b) (hG:Gx w)
  (hC:∀ u wx,IsF wx u a b->Gx wx->aC a b=true->bU x.data.toList=true->bU y.data.toList=true->Calls Tryz.prog 84 #[u,.string x,.string y] wx fun e w'=>e=.returned (.bool r)/\Below wx.heap.size wx w') :
  Calls Tryz.prog 44 #[v,.string x,.string y] w fun e w'=>e=.returned (.tuple #[.bool (dj r a b x y).1,.int .i64 (dj r a b x y).2])/\Below w.heap.size w w':=by
 have HC:=Ip hC;clear hC;obtain⟨p,c,q,d,rfl,hfa,hfb⟩:=id hF.ex;go_enter Tryz.func44,Tryz.ntmps44;go_upto_region 1 with fail
 have cc:=aG w (.slice p a.length c) (.slice q b.length d);have m1:=aj w (.cells #[.slice p a.length c,.slice q b.length d] 24);have zz:=size_alloc w (.cells #[.slice p a.length c,.slice q b.length d] 24);generalize w.alloc (.cells #[.slice p a.length c,.slice q b.length d] 24)=w1 at *
 have HCK:=Ip (fP _ a b w1 (hF.below m1) (hG.below m1));have HA:=Ip (hfa.below m1);have HB:=Ip (hfb.below m1);have HG:=Ip (hG.below m1);have c0:=cc.1;have c1:=cc.2;have hlt:w.heap.size<w1.heap.size:=by omega
 have M1:=Ip m1;clear hfa hfb cc zz m1 hF hG;by_cases hck:aC a b=true
 ·have HT:=Ip (show dj r a b x y=if bU x.data.toList=true then if bU y.data.toList=true then if 0<jZ x y then (false,8) else (r,0) else (false,2) else (false,2) by unfold dj;rw[if_pos hck]);have HK:=Ip hck;have hce:aB a b=0:=by unfold aB;rw[if_pos hck]
  rw[hce] at HCK;obtain⟨ob1,ob7,oa1,oa7,oac,obc,ohd⟩:=bv hck;clear hce;go_wp2_with fail
  refine HCK.out.mono ?_;rintro e w2 ⟨rfl,hb2⟩;have d0:=ag hb2 hlt c0;have d1:=ag hb2 hlt c1;have HA2:=Ip (HA.out.below hb2);have HB2:=Ip (HB.out.below hb2);have HG2:=Ip (HG.out.below hb2);have M2:=Ip (LK M1.out hb2);have hlt2:w.heap.size<w2.heap.size:=Iz hlt hb2.size;clear c0 c1 HA HB HG HCK M1 hb2 hlt;clear oac obc ohd ob1 ob7 oa1 oa7 hck;go_wp2_with fail
  refine (rY x w2 HG2.out).mono ?_;rintro e w3 ⟨bx,rfl,hbx,hb3⟩;have M3:=Ip (LK M2.out hb3)
  cases bx
  ·have HE:=Ip (show dj r a b x y=(false,2) by rw[HT.out,if_neg (by rw[hbx.out];decide)]);clear hbx;go_wp2;refine LM (v:=.tuple #[.bool false,.int .i64 2]) (by simp[results,Tryz.results44,go_sem]) rfl ⟨by rw[HE.out],M3.out⟩
  ·have HX:=Ip hbx.out;have HT:=Ip (show dj r a b x y=if bU y.data.toList=true then if 0<jZ x y then (false,8) else (r,0) else (false,2) by rw[HT.out,if_pos hbx.out]);have e0:=ag hb3 hlt2 d0;have e1:=ag hb3 hlt2 d1;have hlt3:w.heap.size<w3.heap.size:=Iz hlt2 hb3.size;have HA3:=Ip (HA2.out.below hb3);have HB3:=Ip (HB2.out.below hb3);have HG3:=Ip (HG2.out.below hb3);clear d0 d1 hlt2 HA2 HB2 HG2 M2 hb3 hbx;go_wp2_with fail
   refine (rY y w3 HG3.out).mono ?_;rintro e w4 ⟨bz,rfl,hbz,hb4⟩;have M4:=Ip (LK M3.out hb4)
   cases bz
   ·have HE:=Ip (show dj r a b x y=(false,2) by rw[HT.out,if_neg (by rw[hbz.out];decide)]);clear hbz;go_wp2;refine LM (v:=.tuple #[.bool false,.int .i64 2]) (by simp[results,Tryz.results44,go_sem]) rfl ⟨by rw[HE.out],M4.out⟩
   ·have HY:=Ip hbz.out;have HT:=Ip (show dj r a b x y=if 0<jZ x y then (false,8) else (r,0) by rw[HT.out,if_pos hbz.out]);have d0:=ag hb4 hlt3 e0;have d1:=ag hb4 hlt3 e1;have hlt4:w.heap.size<w4.heap.size:=Iz hlt3 hb4.size;have HA4:=Ip (HA3.out.below hb4);have HB4:=Ip (HB3.out.below hb4);have HG4:=Ip (HG3.out.below hb4);clear e0 e1 hlt3 HA3 HB3 HG3 M3 hb4 hbz;have HCM:=Ip (kY x y w4 HG4.out.g);generalize jZ x y=cm at HCM HT;go_wp2_with fail
    refine HCM.out.mono ?_;rintro e w5 ⟨rfl,hb5⟩;have M5:=Ip (LK M4.out hb5);by_cases hcm:0<cm
    ·have hd:decide (0<cm)=true:=decide_eq_true hcm;have HE:=Ip (show dj r a b x y=(false,8) by rw[HT.out,if_pos hcm]);clear hcm;go_wp2;refine LM (v:=.tuple #[.bool false,.int .i64 8]) (by simp[results,Tryz.results44,go_sem]) rfl ⟨by rw[HE.out],M5.out⟩
    ·have hd:decide (0<cm)=false:=decide_eq_false hcm;have HE:=Ip (show dj r a b x y=(r,0) by rw[HT.out,if_neg hcm]);have e0:=ag hb5 hlt4 d0;have e1:=ag hb5 hlt4 d1;have HCC:=Ip (HC.out _ w5 ⟨_,_,_,_,rfl,HA4.out.below hb5,HB4.out.below hb5⟩ (HG4.out.below hb5) HK.out HX.out HY.out);clear d0 d1 hcm hb5;go_wp2_with fail
     refine HCC.out.mono ?_;rintro e w6 ⟨rfl,hb6⟩;go_wp2;refine LM (v:=.tuple #[.bool r,.int .i64 0]) (by simp[results,Tryz.results44,go_sem]) rfl ⟨by rw[HE.out],LK M5.out hb6⟩
 ·have HE:=Ip (show dj r a b x y=(false,30) by unfold dj;rw[if_neg hck]);have hce:aB a b=30:=by unfold aB;rw[if_neg hck]
  rw[hce] at HCK;clear hce;go_wp2_with fail
  refine HCK.out.mono ?_;rintro e w2 ⟨rfl,hb2⟩;go_wp2;refine LM (v:=.tuple #[.bool false,.int .i64 30]) (by simp[results,Tryz.results44,go_sem]) rfl ⟨by rw[HE.out],LK M1.out hb2⟩
theorem rW (v:Value) (a b:List ByteArray) (x y:ByteArray) (w:World) (hF:IsF w v a b) (hG:Gx w) (hck:aC a b=true) (hno:da a b x=false\/da a b y=false) :
  Calls Tryz.prog 84 #[v,.string x,.string y] w fun e w'=>e=.returned (.bool false)/\Below w.heap.size w w':=by
 obtain⟨ob1,ob7,oa1,oa7,-,-,-⟩:=bv hck;obtain⟨p,c,q,d,rfl,hfa,hfb⟩:=id hF.ex;go_enter Tryz.func84,Tryz.ntmps84;go_upto_region 1 with fail
 have cc:=aG w (.slice p a.length c) (.slice q b.length d);have m1:=aj w (.cells #[.slice p a.length c,.slice q b.length d] 24);have z1:=size_alloc w (.cells #[.slice p a.length c,.slice q b.length d] 24);generalize w.alloc (.cells #[.slice p a.length c,.slice q b.length d] 24)=w1 at *
 have H1:=Ip (lM _ a b x w1 (hF.below m1) ob1 (by omega) (by omega) (hG.below m1).g);have H2:=Ip (fun wx (h:Below w1.heap.size w1 wx)=>lM _ a b y wx ((hF.below m1).below h) ob1 (by omega) (by omega) ((hG.below m1).below h).g);have c0:=cc.1;have c1:=cc.2;have hlt:w.heap.size<w1.heap.size:=by omega
 have M1:=Ip m1;clear cc m1 z1 hF hG hfa hfb hck ob7 oa1 oa7 ob1
 cases hx:da a b x with
 | false =>
  rw[hx] at H1;clear hx hno;go_wp2_with fail
  refine H1.out.mono ?_;rintro e w2 ⟨rfl,hb2⟩;go_wp2;go_ret;exact⟨rfl,LK M1.out hb2⟩
 | true =>
  have hy:da a b y=false:=by
   rcases hno with h | h
   ·rw[hx] at h;cases h
   ·exact h
  rw[hx] at H1;rw[hy] at H2;clear hx hy hno;go_wp2_with fail
  refine H1.out.mono ?_;rintro e w2 ⟨rfl,hb2⟩;have d0:=ag hb2 hlt c0;have d1:=ag hb2 hlt c1;clear c0 c1;go_wp2_with fail
  refine (H2.out w2 hb2).mono ?_;rintro e w3 ⟨rfl,hb3⟩;go_wp2;go_ret;exact⟨rfl,LK M1.out (LK hb2 hb3)⟩
theorem oT (w:World) (s:ByteArray):IsS (w.alloc (.cells #[.string s] 25)) (.slice (some ⟨w.heap.size,0,none⟩) 1 1) [s]:=(Aa w w.heap.size s (Iw _)).isS
theorem H4 (v:Value) (a:Nat) (x y:Value) (w:World) (hc:w.cell? ⟨a,0,none⟩=some (.int .i64 0)) :
  Calls Tryz.prog 206 #[.int .i64 0,v,.pointer (some ⟨a,0,none⟩),x,y] w fun e w'=>∃ u,e=.returned u/\IsS w' u [⟨#[49]⟩]/\Below w.heap.size w w':=by
 have m1:=Ip (aj w (.cells #[.string ⟨#[49]⟩] 25));have h1:=Ip (oT w ⟨#[49]⟩);go_enter Tryz.func206,Tryz.ntmps206;go_wp2;refine LM (v:=.slice (some ⟨w.heap.size,0,none⟩) 1 1) (by simp[results,Tryz.results206,go_sem]) rfl ⟨_,rfl,h1.out,m1.out⟩
theorem detN (p:Option Addr) (c:Nat) (w:World) :
  Calls Tryz.prog 175 #[.slice p 0 c] w fun e w'=>∃ u,e=.returned u/\IsS w' u [⟨#[49]⟩]/\Below w.heap.size w w':=by
 have EN:=cA Tryz.func206 rfl (by kernel_rfl);have hmf:∀ (fn:Fn) (first cap:Array Value) (w:World),(Instr.makeFunc fn first cap).run Tryz.prog w=.ok (.func fn first cap) w:=fun _ _ _ _=>rfl;go_enter Tryz.func175,Tryz.ntmps175;go_upto_region 3 with fail
 have m1:=aj w (.cells #[.slice p 0 c] 193);have z1:=size_alloc w (.cells #[.slice p 0 c] 193);generalize w.alloc (.cells #[.slice p 0 c] 193)=w1 at *
 have m2:=aj w1 (.cells #[.int .i64 0] 3);have z2:=size_alloc w1 (.cells #[.int .i64 0] 3);have r2:=heap_alloc_new w1 (.cells #[.int .i64 0] 3 (0,0));generalize w1.alloc (.cells #[.int .i64 0] 3)=w2 at *
 have m3:=aj w2 (.cells #[.nilFunc] 224);have r3:=heap_alloc_new w2 (.cells #[.nilFunc] 224 (0,0));generalize w2.alloc (.cells #[.nilFunc] 224)=w3 at *
 have hM3:=(LK m1 m2).trans (m3.mono (by omega));rw[z1] at r2;rw[z2,z1] at r3;have R2:=(m3.block (w.heap.size+1) (by omega)).trans r2;obtain⟨k3,f3⟩:=eo r3;obtain⟨k2,f2⟩:=eo R2;have HM:=Ip (hM3.setCell (p:=⟨w.heap.size+1+1,0,none⟩) (by show w.heap.size<=w.heap.size+1+1;omega) (.func (.func 206) #[] #[.pointer (some ⟨w.heap.size+1,0,none⟩),.pointer (some ⟨w.heap.size,0,none⟩),.pointer (some ⟨w.heap.size+1+1,0,none⟩)]));have q2:=(World.cell?_setCell_other (w:=w3) (a:=⟨w.heap.size+1+1,0,none⟩) (b:=⟨w.heap.size+1,0,none⟩) (v:=.func (.func 206) #[] #[.pointer (some ⟨w.heap.size+1,0,none⟩),.pointer (some ⟨w.heap.size,0,none⟩),.pointer (some ⟨w.heap.size+1+1,0,none⟩)]) (fun e=>by have:=congrArg Addr.block e;simp at this)).trans k2;have q3:=World.cell?_setCell_same (w:=w3) (a:=⟨w.heap.size+1+1,0,none⟩) (v:=.func (.func 206) #[] #[.pointer (some ⟨w.heap.size+1,0,none⟩),.pointer (some ⟨w.heap.size,0,none⟩),.pointer (some ⟨w.heap.size+1+1,0,none⟩)]) k3;clear m1 z1 m2 z2 r2 m3 r3 hM3 R2;go_upto_region 4 with fail
 clear k2 k3 f2 f3;generalize w3.setCell ⟨w.heap.size+1+1,0,none⟩ (.func (.func 206) #[] #[.pointer (some ⟨w.heap.size+1,0,none⟩),.pointer (some ⟨w.heap.size,0,none⟩),.pointer (some ⟨w.heap.size+1+1,0,none⟩)])=w4 at *
 go_wp2_with fail
 go_loopw [5,11] (fun s5 s11 wr=>s5=.slice none 0 0/\s11=.int .i64 0/\wr=w4) (fun _ _ _=>0)
 case atStart=>exact⟨rfl,rfl,rfl⟩
 case round =>
  obtain⟨rfl,rfl,rfl⟩:=hrel;go_wp2_with fail
  refine (H4 _ _ _ _ wr q2).mono ?_;rintro e w5 ⟨u,rfl,hu,hb5⟩;go_wp2;go_ret;exact⟨_,rfl,hu,LK HM.out hb5⟩
end Go.Proofs.YtlhpcoelfhjomaaGreatDoor
