/- Lemmas of this claim. -/
import Derived.Test.YtbnkpcfjechfiaaGreatDoorYPM2
import Derived.Test.YtbnkpcfjechfiaaGreatDoorYPL3
set_option linter.all false
set_option maxRecDepth 100000
set_option maxHeartbeats 8000000
namespace Go.Proofs.YtbnkpcfjechfiaaGreatDoor
open Go.RowKit Dg
def gN (fa fb:List ByteArray) (k:ByteArray):List ByteArray:=gF (fa.map (fun a=>dD a k)) fb
def cI (fa fb:List ByteArray) (k:ByteArray):Bool:=if aF (gN fa fb k) 0=⟨#[48]⟩ then false else (b_ ((gN fa fb k).map (fun a=>df a (aF (gN fa fb k) 0)))).isSome
theorem E0 (k:ByteArray) (g:Nat) (w:World) (hc:w.cell? ⟨g,0,none⟩=some (.string k)) (hg:g<w.heap.size) (hG:Gw w) :
  FnT 205 #[.pointer (some ⟨g,0,none⟩)] (fun a=>dD a k) w:=by
 refine⟨bj Tryz.func205 rfl (by kernel_rfl),fun x w' hb=>?_⟩;have c0:=ag hb hg hc;have HG:=Fi (hG.below hb)
 show Calls _ _ #[_,_] _ _
 go_enter Tryz.func205,Tryz.ntmps205;go_wp2_with fail
 refine (eM _ _ w' HG.out).mono ?_;rintro e w1 ⟨rfl,hb1⟩;go_wp2;go_ret;exact⟨rfl,hb1⟩
theorem pI (fa fb:List ByteArray) (k:ByteArray):(gN fa fb k).length=max fa.length fb.length:=by unfold gN;rw[ly,FJ]
theorem mK (v:Value) (fa fb:List ByteArray) (k:ByteArray) (w:World) (hF:IsF w v fa fb) (h2:fa.length<1000) (h3:fb.length<1000) (hG:Gw w) :
  Calls Tryz.prog 154 #[v,.string k] w fun e w'=>∃ u,e=.returned u∧IsS w' u (gN fa fb k)∧Below w.heap.size w w':=by
 obtain⟨p,c,q,d,rfl,hfa,hfb⟩:=id hF.ex;go_enter Tryz.func154,Tryz.ntmps154;go_upto_region 1 with fail
 have cc:=aG w (.slice p fa.length c) (.slice q fb.length d);have m1:=aq w (.cells #[.slice p fa.length c,.slice q fb.length d] 24);have z1:=size_alloc w (.cells #[.slice p fa.length c,.slice q fb.length d] 24);generalize w.alloc (.cells #[.slice p fa.length c,.slice q fb.length d] 24)=w1 at *
 have a0:=aE w1 #[.string k] 34 0 _ rfl;have m2:=aq w1 (.cells #[.string k] 34);have z2:=size_alloc w1 (.cells #[.string k] 34);have b0:=ag m2 (show w.heap.size<w1.heap.size by omega) cc.1;have b1:=ag m2 (show w.heap.size<w1.heap.size by omega) cc.2;generalize w1.alloc (.cells #[.string k] 34)=w2 at *
 rw[z1] at a0;have m3:Below w2.heap.size w2 w2.drew:=(Below.refl _ _).drew;refine aw (fun w'=>∃ x:aK w2.drew.heap.size w2.drew,w'=x.w) (fun i=>i == 3||i == 6) (by kernel_rfl) (by kernel_rfl) ⟨⟨_,Below.refl _ _⟩,rfl⟩ ?_;have a0:=ag m3 (show w.heap.size+1<w2.heap.size by omega) a0;have b0:=ag m3 (show w.heap.size<w2.heap.size by omega) b0;have b1:=ag m3 (show w.heap.size<w2.heap.size by omega) b1;have hw2:w.heap.size+1<w2.drew.heap.size:=by have:=m3.size;omega
 have M2:=m1.trans (m2.mono m1.size);have MD:=Fi (M2.trans (m3.mono M2.size));have HA:=Fi (hfa.below MD.out);have HB:=Fi (hfb.below MD.out);have HG:=Fi (hG.below MD.out);clear m1 m2 m3 z1 z2 cc hfa hfb hG hF M2;generalize w2.drew=wd at *
 have hz:wd.heap.size≤wd.heap.size:=Fq _;have HFn:=Fi (E0 k (w.heap.size+1) wd a0 hw2 HG.out);have d0:=fun x:aK wd.heap.size wd=>ag x.h (show w.heap.size<wd.heap.size by omega) b0;have d1:=fun x:aK wd.heap.size wd=>ag x.h (show w.heap.size<wd.heap.size by omega) b1;have hwd:=MD.out.size;clear a0 b0 b1;refine ak 3 0 _ _ _ (by kernel_rfl) ?_;simp only[Fr,Fv,Fs,Fu];repeat (go_big_quiet_step (fail))
 refine wpQuiet_nil ?_;refine ap rfl rfl (fun K hK=>?_);go_simp;refine (ws _ fa _ _ _ wd HA.out (by omega) HFn.out).mono ?_;rintro e w6 ⟨u1,rfl,hu1,hb6⟩;obtain⟨L1,hL1⟩:∃ L,L=fa.map (fun a=>dD a k):=⟨_,rfl⟩;have hl1:L1.length<1000:=by rw[hL1,FJ];exact h2
 have HC:=Fi (show gN fa fb k=gF L1 fb by unfold gN;rw[←hL1]);rw[←hL1] at hu1;clear hL1;refine hK _ _ ⟨⟨_,hb6.mono hz⟩,rfl⟩ ?_;clear hK K;try simp only[Act.put,Fm,Fl,Fk,Fj,Fo,Fp]
 refine ak 2 4 _ _ _ (by kernel_rfl) ?_;simp only[Fr,Fv,Fs,Fu];repeat (go_big_quiet_step (fail))
 refine wpQuiet_nil ?_;refine ap rfl rfl (fun K hK=>?_);go_simp;refine (EE _ _ L1 fb w6 hu1.isS (HB.out.below hb6) (by omega) (by omega) (HG.out.below hb6)).mono ?_;rintro e w7 ⟨u2,rfl,hu2,hb7⟩;have hB7:=hb6.trans (hb7.mono hb6.size);refine hK _ _ ⟨⟨_,hB7.mono hz⟩,rfl⟩ ?_;clear hK K;try simp only[Act.put,Fm,Fl,Fk,Fj,Fo,Fp]
 refine ak 1 7 _ _ _ (by kernel_rfl) ?_;simp only[Fr,Fv,Fs,Fu];repeat (go_big_quiet_step (fail))
 refine wpQuiet_nil ?_;refine aD ?_;rw[←HC.out] at hu2;have HU:=Fi hu2;have hb66:=hb6.size;have MF:=Fi (MD.out.trans (hB7.mono hwd));clear hu2 hu1 hb7 hB7 d0 d1;go_wp2;go_ret;exact⟨_,rfl,HU.out.isS,MF.out⟩
theorem Ef (s:List ByteArray) (h0:0<s.length) (k:Nat) (p:Option Addr) (n c:Nat) (w:World) (hs:IsS w (.slice p n c) s) (hn:n=s.length) (hc:w.cell? ⟨k,0,none⟩=some (.slice p n c)) (hk:k<w.heap.size) (hG:Gw w) :
  FnT 155 #[.pointer (some ⟨k,0,none⟩)] (fun a=>df a (aF s 0)) w:=by
 refine⟨bj Tryz.func155 rfl (by kernel_rfl),fun x w0 hw=>?_⟩;obtain⟨b,o,rfl,hlt,hcs⟩:=hs.all h0;have c0:=ag hw hk hc;have c1:w0.cell? ⟨b,o,none⟩=some (.string (aF s 0)):=by simpa using ag hw hlt (hcs 0 h0)
 have HD:=Fi (fT x (aF s 0) w0 (hG.below hw));have hnp:0<n:=by omega
 clear hcs hs hn
 show Calls _ _ #[_,.pointer (some ⟨k,0,none⟩)] _ _
 go_enter Tryz.func155,Tryz.ntmps155;go_wp2_with fail
 refine HD.out.mono ?_;rintro e w1 ⟨rfl,hb1⟩;go_wp2;go_ret;exact⟨rfl,hb1⟩
theorem kw (v:Value) (fa fb:List ByteArray) (k:ByteArray) (w:World) (hF:IsF w v fa fb) (h1:0<fb.length) (h2:fa.length<1000) (h3:fb.length<1000) (hG:Gw w) :
  Calls Tryz.prog 106 #[v,.string k] w fun e w'=>e=.returned (.bool (cI fa fb k))∧Below w.heap.size w w':=by
 obtain⟨p,c,q,d,rfl,hfa,hfb⟩:=id hF.ex;go_enter Tryz.func106,Tryz.ntmps106;go_upto_region 1 with fail
 have cc:=aG w (.slice p fa.length c) (.slice q fb.length d);have m1:=aq w (.cells #[.slice p fa.length c,.slice q fb.length d] 24);have HC:=Fi (mK _ fa fb k _ (hF.below m1) h2 h3 (hG.below m1));have HG:=Fi (hG.below m1);have M1:=Fi m1;generalize w.alloc (.cells #[.slice p fa.length c,.slice q fb.length d] 24)=w1 at *
 have c0:=cc.1;have c1:=cc.2;have hsl:0<(gN fa fb k).length:=by rw[pI];omega
 have hsl2:(gN fa fb k).length<1000:=by rw[pI];omega
 have HT:=Fi (show cI fa fb k=if aF (gN fa fb k) 0=⟨#[48]⟩ then false else (b_ ((gN fa fb k).map (fun a=>df a (aF (gN fa fb k) 0)))).isSome from rfl);clear hF hG hfa hfb m1 cc;generalize gN fa fb k=s at *
 go_wp2_with fail
 refine HC.out.mono ?_;rintro e w2 ⟨u,rfl,hu,hb2⟩;have hi:=hu;obtain⟨pu,cu,rfl,-⟩:=id hi.form;obtain⟨b,o,rfl,hlt,hcs⟩:=hi.all hsl;have hcs0:w2.cell? ⟨b,o,none⟩=some (.string (aF s 0)):=by simpa using hcs 0 hsl
 have M2:=M1.out.trans (hb2.mono M1.out.size);clear hu hcs c0 c1 HC;go_upto_region 2 with fail
 have a5:(w2.alloc (.cells #[.slice (some ⟨b,o,none⟩) s.length cu] 22)).cell? ⟨w2.heap.size,0,none⟩=some (.slice (some ⟨b,o,none⟩) s.length cu):=aE w2 _ _ 0 _ rfl;have m3:=aq w2 (.cells #[.slice (some ⟨b,o,none⟩) s.length cu] 22);have z3:=size_alloc w2 (.cells #[.slice (some ⟨b,o,none⟩) s.length cu] 22);generalize w2.alloc (.cells #[.slice (some ⟨b,o,none⟩) s.length cu] 22)=w3 at *
 have e0:=ag m3 hlt hcs0;have M3:=Fi (M2.trans (m3.mono M2.size));have HG3:=Fi (HG.out.below (hb2.trans (m3.mono hb2.size)));have HI:=Fi (hi.below m3);have HFn:=Fi (Ef s hsl w2.heap.size (some ⟨b,o,none⟩) s.length cu w3 HI.out rfl a5 (by omega) HG3.out);clear m3 z3 hi hcs0 M2 M1 hb2 HG hlt;by_cases heq:aF s 0=⟨#[48]⟩
 ·have HE:=Fi (show cI fa fb k=false by rw[HT.out,if_pos heq]);have hd:((aF s 0).toList == [48])=true:=by rw[heq,ax];rfl
  clear heq;go_wp2;go_ret;exact⟨by rw[HE.out];rfl,M3.out⟩
 ·have HE:=Fi (show cI fa fb k=(b_ (s.map (fun a=>df a (aF s 0)))).isSome by rw[HT.out,if_neg heq])
  have hd:((aF s 0).toList == [48])=false:=by
   rw[Gl];intro h;refine heq (iH ?_);rw[←ax];simpa using h
  clear heq;go_wp2_with fail
  refine (ws _ s _ _ _ w3 HI.out (by omega) HFn.out).mono ?_;rintro e w6 ⟨u1,rfl,hu1,hb6⟩;obtain⟨L1,hL1⟩:∃ L,L=s.map (fun a=>df a (aF s 0)):=⟨_,rfl⟩;have hl1:L1.length=s.length:=by rw[hL1,FJ]
  rw[←hL1] at hu1 HE;have HI1:=Fi hu1.isS;have hl2:0<L1.length:=by omega
  have hl3:L1.length<1000000:=by omega
  clear hL1 hl1 hu1;go_wp2_with fail
  refine (lw _ L1 w6 HI1.out hl2 hl3 (HG3.out.below hb6)).mono ?_;rintro e w7 ⟨rfl,hb7⟩;have MF:=Fi (M3.out.trans ((hb6.trans (hb7.mono hb6.size)).mono M3.out.size));clear hb6 hb7;go_wp2;go_ret;exact⟨by rw[HE.out];rfl,MF.out⟩
theorem vo (va vb:Value) (a b:List ByteArray) (w:World) (ha:IsS w va a) (hb:IsS w vb b) (hG:Gw w) :
  Calls Tryz.prog 196 #[va,vb] w fun e w'=>∃ v',e=.returned v'∧IsS w' v' (bP CQ.add a b).1∧Below w.heap.size w w':=by
 have HC:=Fi (Bh va vb a b w ha hb hG);clear ha hb hG;generalize bP CQ.add a b=r at *
 go_enter Tryz.func196,Tryz.ntmps196;go_wp2_with fail
 refine HC.out.mono ?_;rintro e w1 ⟨v,rfl,hv,hb⟩;go_wp2;go_ret;exact⟨_,rfl,hv,hb⟩
theorem C5 (va vb:Value) (a b:List ByteArray) (w:World) (ha:IsS w va a) (hb:IsS w vb b) (hG:Gw w) :
  Calls Tryz.prog 197 #[va,vb] w fun e w'=>∃ v',e=.returned v'∧IsS w' v' (bP CQ.sub a b).1∧Below w.heap.size w w':=by
 have HC:=Fi (Bi va vb a b w ha hb hG);clear ha hb hG;generalize bP CQ.sub a b=r at *
 go_enter Tryz.func197,Tryz.ntmps197;go_wp2_with fail
 refine HC.out.mono ?_;rintro e w1 ⟨v,rfl,hv,hb⟩;go_wp2;go_ret;exact⟨_,rfl,hv,hb⟩
def iK (fa fb:List ByteArray) (l:List ByteArray):Int:=if aC fa fb=true then if 32<l.length then 3 else if (l.all fun s=>bU s.data.toList)=true then 0 else 2 else 30
theorem Ee (v vl:Value) (a b l:List ByteArray) (w:World) (hF:IsF w v a b) (hl:IsS w vl l) (hG:Gx w) :
  Calls Tryz.prog 105 #[v,vl] w fun e w'=>e=.returned (.int .i64 (iK a b l))∧Below w.heap.size w w':=by
 obtain⟨pl,cl,rfl,-⟩:=id hl.form;have HL:=Fi hl;have HGG:=Fi hG;clear hl;obtain⟨p,c,q,d,rfl,hfa,hfb⟩:=id hF.ex;go_enter Tryz.func105,Tryz.ntmps105;go_upto_region 1 with fail
 have cc:=aG w (.slice p a.length c) (.slice q b.length d);have m1:=aq w (.cells #[.slice p a.length c,.slice q b.length d] 24);have zz:=size_alloc w (.cells #[.slice p a.length c,.slice q b.length d] 24);generalize w.alloc (.cells #[.slice p a.length c,.slice q b.length d] 24)=w1 at *
 have HCK:=Fi (eH _ a b w1 (hF.below m1) (hG.below m1));have HA:=Fi (hfa.below m1);have HB:=Fi (hfb.below m1);have HG:=Fi (hG.below m1);have c0:=cc.1;have c1:=cc.2;have hlt:w.heap.size<w1.heap.size:=by omega
 have M1:=Fi m1;clear hfa hfb cc zz m1 hF hG;by_cases hck:aC a b=true
 ·have HT:=Fi (show iK a b l=if 32<l.length then 3 else if (l.all fun s=>bU s.data.toList)=true then 0 else 2 by unfold iK;rw[if_pos hck]);have hce:aB a b=0:=by unfold aB;rw[if_pos hck]
  rw[hce] at HCK;obtain⟨ob1,ob7,oa1,oa7,oac,obc,ohd⟩:=aZ hck;clear hce;go_wp2_with fail
  refine HCK.out.mono ?_;rintro e w2 ⟨rfl,hb2⟩;have d0:=ag hb2 hlt c0;have d1:=ag hb2 hlt c1;have HA2:=Fi (HA.out.below hb2);have HB2:=Fi (HB.out.below hb2);have HG2:=Fi (HG.out.below hb2);have M2:=Fi (M1.out.trans (hb2.mono M1.out.size));have hlt2:w.heap.size<w2.heap.size:=Ft hlt hb2.size;clear c0 c1 HA HB HG HCK M1 hb2 hlt;clear d0 d1 HA2 HB2 hlt2 oac obc ohd ob1 ob7 oa1 oa7 hck;by_cases h32:32<l.length
  ·have HE:=Fi (show iK a b l=3 by rw[HT.out,if_pos h32]);have hd:decide ((32:Int)<(l.length:Int))=true:=by simp;omega
   clear h32;go_wp2;go_ret;exact⟨by rw[HE.out];rfl,M2.out⟩
  ·rw[if_neg h32] at HT;have hd:decide ((32:Int)<(l.length:Int))=false:=by simp;omega
   go_wp2;go_loopw [18] (fun s18 wr=>∃ i:Nat,s18=.int .i64 i∧i≤l.length∧Below w.heap.size w wr∧Hid (Gx wr)∧Hid (((l.take i).all fun s=>bU s.data.toList)=true)) (fun s18 _=>l.length-(intOf s18).toNat)
   case atStart=>exact⟨0,rfl,Fz _,M2.out,HG2.out,rfl⟩
   case round =>
    obtain⟨i,rfl,hin,hbr,HGr,hall⟩:=hrel;by_cases hi:i<l.length
    ·obtain⟨bb,oo,rfl,hlt,hcell⟩:=(HL.out.below hbr).get hi;have HS:=Fi (jg hi (fun s=>bU s.data.toList));have HN:=Fi (nB hi (fun s=>bU s.data.toList));generalize l[i]=s at *
     go_wp2_with fail
     refine (sB s wr HGr.out).mono ?_;rintro e w3 ⟨ok,rfl,hok,hb3⟩;have hB3:=hbr.trans (hb3.mono hbr.size)
     cases ok
     ·have HE:=Fi (show iK a b l=2 by rw[HT.out,if_neg (by rw[HN.out hok.out];decide)]);clear HS HN hok hall hcell hd h32;go_wp2;go_ret;exact⟨by rw[HE.out];rfl,hB3⟩
     ·have HA3:=Fi (show ((l.take (i+1)).all fun s=>bU s.data.toList)=true by rw[HS.out,hall.out,hok.out];rfl);have HG3:=Fi (HGr.out.below hb3);clear HS HN hok hall hcell hbr HGr hb3;go_wp2;go_roundw;case rel=>exact⟨i+1,by go_num,by omega,hB3,HG3,HA3⟩
      case measure=>(first | (simp[intOf];done) | (simp[intOf];omega))
    ·have hin':i=l.length:=by omega
     subst hin'
     have HE:=Fi (show iK a b l=0 by
      have h:=hall.out;rw[FQ] at h
      rw[HT.out,if_pos h])
     clear hi hall hd h32;go_wp2;go_ret;exact⟨by rw[HE.out];rfl,hbr⟩
 ·have HE:=Fi (show iK a b l=30 by unfold iK;rw[if_neg hck]);have hce:aB a b=30:=by unfold aB;rw[if_neg hck]
  rw[hce] at HCK;clear hce;go_wp2_with fail
  refine HCK.out.mono ?_;rintro e w2 ⟨rfl,hb2⟩;go_wp2;go_ret;exact⟨by rw[HE.out];rfl,M1.out.trans (hb2.mono M1.out.size)⟩
def bv (fa:List ByteArray) (i:Nat):List ByteArray:=List.replicate i ⟨#[48]⟩++fa
theorem jk (fa:List ByteArray) (i:Nat):(bv fa i).length=i+fa.length:=by simp[bv]
theorem qT (fa:List ByteArray) (i:Nat):bv fa (i+1)=[⟨#[48]⟩]++bv fa i:=by simp[bv,GK]
def eh (fa fb:List ByteArray):Nat→Nat→Nat
 | 0,i=>i
 | n+1,i=>if i+fa.length≤6 then if cI (bv fa (i+1)) fb ⟨#[49]⟩=true then eh fa fb n (i+1) else i else i
theorem qU (fa fb:List ByteArray) (n i:Nat):eh fa fb (n+1) i=if i+fa.length≤6 then if cI (bv fa (i+1)) fb ⟨#[49]⟩=true then eh fa fb n (i+1) else i else i:=rfl
def eJ (fa fb:List ByteArray):Int×Int:=if aC fa fb=true then if cI fa fb ⟨#[49]⟩=true then (((eh fa fb 7 0:Nat):Int),0) else (0,31) else (0,30)
theorem wY (w:World) (base:Nat) (t:ByteArray) (hb:base≤w.heap.size):bW (w.alloc (.cells #[.string t] 34)) base (.slice (some ⟨w.heap.size,0,none⟩) 1 1) [t] :=
 World.ownsRow_lit w #[.string t] 1 hb (by simp[maxLen]) rfl
theorem Cq (v:Value) (a b:List ByteArray) (w:World) (hF:IsF w v a b) (hG:Gx w) :
  Calls Tryz.prog 51 #[v] w fun e w'=>e=.returned (.tuple #[.int .i64 (eJ a b).1,.int .i64 (eJ a b).2])∧Below w.heap.size w w':=by
 have HF0:=Fi hF;have HG0:=Fi hG;obtain⟨p,c,q,d,rfl,hfa,hfb⟩:=id hF.ex;go_enter Tryz.func51,Tryz.ntmps51;go_upto_region 1 with fail
 have q1:=heap_alloc_new w (.cells #[.slice p a.length c,.slice q b.length d] 24);have m1:=aq w (.cells #[.slice p a.length c,.slice q b.length d] 24);have z1:=size_alloc w (.cells #[.slice p a.length c,.slice q b.length d] 24);generalize w.alloc (.cells #[.slice p a.length c,.slice q b.length d] 24)=w1 at *
 have hlt:w.heap.size<w1.heap.size:=by omega
 have HCK:=Fi (eH _ a b w1 (hF.below m1) (hG.below m1));have c0:=ah q1 0;have c1:=ah q1 1;have M1:=Fi m1;clear hF hG z1 m1;by_cases hck:aC a b=true
 ·have HT:=Fi (show eJ a b=if cI a b ⟨#[49]⟩=true then (((eh a b 7 0:Nat):Int),0) else (0,31) by unfold eJ;rw[if_pos hck]);have hce:aB a b=0:=by unfold aB;rw[if_pos hck]
  rw[hce] at HCK;obtain⟨ob1,ob7,oa1,oa7,-,-,-⟩:=aZ hck;clear hce;go_wp2_with fail
  refine HCK.out.mono ?_;rintro e w2 ⟨rfl,hb2⟩;have q2:=(hb2.block w.heap.size hlt).trans q1;have hlt2:w.heap.size<w2.heap.size:=Ft hlt hb2.size;have M2:=Fi (M1.out.trans (hb2.mono M1.out.size));have HH:=Fi (kw _ a b ⟨#[49]⟩ w2 (HF0.out.below M2.out) ob1 (by omega) (by omega) (HG0.out.below M2.out).g);clear q1 c0 c1 hb2 hlt M1 HCK hck;have c0:=ah q2 0;have c1:=ah q2 1;by_cases hh:cI a b ⟨#[49]⟩=true
  ·rw[hh] at HH;have HT:=Fi (show eJ a b=(((eh a b 7 0:Nat):Int),0) by rw[HT.out,if_pos hh]);clear hh;go_wp2_with fail
   refine HH.out.mono ?_;rintro e w3 ⟨rfl,hb3⟩;have q3:=(hb3.block w.heap.size hlt2).trans q2;have hlt3:w.heap.size<w3.heap.size:=Ft hlt2 hb3.size;have M3:=Fi (M2.out.trans (hb3.mono M2.out.size));obtain⟨bb,oo,rfl,hbl,-⟩:=hfb.get (i:=0) ob1;obtain⟨ba,oa,rfl,hal,-⟩:=hfa.get (i:=0) oa1;clear q2 c0 c1 hb3 hlt2 M2 HH;go_wp2;have HA0:=Fi (hfa.below M3.out);have HBw:=Fi hfb;clear hfa hfb;have HQ3:=Fi q3;clear q3;have ha1:bv a 0=a:=rfl;have HA1:=Fi ha1;clear ha1;go_loopw [5] (fun s5 wr=>∃ (i:Nat) (px ox cx:Nat),s5=.int .i64 i∧i+a.length≤7∧wr.heap[w.heap.size]?=some (.cells #[.slice (some ⟨px,ox,none⟩) (bv a i).length cx,.slice (some ⟨bb,oo,none⟩) b.length d] 24 (0,0))∧IsS wr (.slice (some ⟨px,ox,none⟩) (bv a i).length cx) (bv a i)∧px≠w.heap.size∧Below w.heap.size w wr∧Hid (eh a b (7-i) i=eh a b 7 0)) (fun s5 _=>7-(intOf s5).toNat)
   case atStart=>exact⟨0,ba,oa,c,rfl,by omega,HQ3.out,HA0.out,by omega,M3.out,rfl⟩
   case round =>
    obtain⟨i,px,ox,cx,rfl,hi7,qr,hin,hpx,hbr,hrec⟩:=hrel;have hlr:w.heap.size<wr.heap.size:=(Fw.1 qr).1;have c0:=ah qr 0;have c1:=ah qr 1;have hdl:=jk a i;by_cases h6:i+a.length≤6
    ·have hd:decide (((bv a i).length:Int)≤6)=true:=by rw[hdl];simp;omega
     have HDL:=Fi hdl;have hrec2:=hrec.out;rw[show 7-i=(6-i)+1 from by omega] at hrec2;rw[qU a b (6-i) i,if_pos h6] at hrec2;have HR:=Fi hrec2;clear hdl hrec2 hrec;go_upto_region 8 with fail
     refine wp_region_lit ?_;refine wpList_plain rfl (fun K hK=>?_);go_simp;refine hK _ _ ?_;clear hK K;try simp only[Act.put,Fm,Fl,Fk,Fj,Fo,Fp]
     have m5:=aq wr (.cells #[.string ⟨#[48]⟩] 34);have ho:=wY wr (w.heap.size+1) ⟨#[48]⟩ hlr;have z5:=size_alloc wr (.cells #[.string ⟨#[48]⟩] 34);have HI5:=hin.below m5;have q5:=(m5.block w.heap.size hlr).trans qr;have B5:=hbr.trans (m5.mono hbr.size);generalize wr.alloc (.cells #[.string ⟨#[48]⟩] 34)=w5 at *
     generalize Value.slice (some ⟨wr.heap.size,0,none⟩) 1 1=sv at ho ⊢;have c0:=ah q5 0;have c1:=ah q5 1;clear hin qr m5 hbr;refine wpList_plain rfl (fun K hK=>?_);go_simp;refine hK _ _ ?_;clear hK K;try simp only[Act.put,Fm,Fl,Fk,Fj,Fo,Fp]
     refine wpList_plain rfl (fun K hK=>?_);go_simp;refine hK _ _ ?_;clear hK K;try simp only[Act.put,Fm,Fl,Fk,Fj,Fo,Fp]
     refine fi 22 Tryz.underlying22 rfl (.tmp 18) (.tmp 20) rfl (w.heap.size+1) _ [⟨#[48]⟩] (bv a i) px ox cx rfl ho rfl HI5 (by rw[HDL.out];simp;omega) (by omega) ?_;intro v' w6 hw6 hb6;have B6:=hb6 _ _ B5 (by omega);have b6:=hb6 (w.heap.size+1) w5 (Below.refl _ _) (Fq _);have q6:=(b6.block w.heap.size (by omega)).trans q5;rw[←qT] at hw6
     obtain⟨g',c',rfl,hg'⟩:∃ g' c',v'=.slice (some ⟨g',0,none⟩) (bv a (i+1)).length c'∧w.heap.size+1≤g':=by
      obtain⟨hlen,h⟩:=hw6;rcases h with ⟨rfl,h0⟩ | ⟨g',cap,cur,rfl,hg',-⟩
      ·rw[jk] at h0;omega
      ·exact⟨g',cap,rfl,hg'⟩
     have HI6:=hw6.isS;have hne:Value.ownBlock (.slice (some ⟨g',0,none⟩) (bv a (i+1)).length c')≠some w.heap.size:=fun e=>by simp[Value.ownBlock] at e;omega
     have HI7:=Fi (HI6.other hne 0 (.slice (some ⟨g',0,none⟩) (bv a (i+1)).length c'));have c0:=ah q6 0;have c1:=ah q6 1;have f0:=av q6 0;have B7:=Fi (B6.setCell (p:=⟨w.heap.size,0,none⟩) (Fq _) (.slice (some ⟨g',0,none⟩) (bv a (i+1)).length c'));have q7:=heap_setCell_same w6 w.heap.size 0 _ 24 (.slice (some ⟨g',0,none⟩) (bv a (i+1)).length c') q6;clear hw6 hb6 B6 b6 q5 HI5 HI6 ho hne B5 z5;try simp only[Act.put,Fm,Fl,Fk,Fj,Fo,Fp]
     refine wpList_plain rfl (fun K hK=>?_);go_simp;refine hK _ _ ?_;clear hK K;try simp only[Act.put,Fm,Fl,Fk,Fj,Fo,Fp]
     refine wpList_plain rfl (fun K hK=>?_);go_simp;refine hK _ _ ?_;clear hK K;try simp only[Act.put,Fm,Fl,Fk,Fj,Fo,Fp]
     generalize w6.setCell ⟨w.heap.size,0,none⟩ (.slice (some ⟨g',0,none⟩) (bv a (i+1)).length c')=w7 at *
     have q7:w7.heap[w.heap.size]?=some (.cells #[.slice (some ⟨g',0,none⟩) (bv a (i+1)).length c',.slice (some ⟨bb,oo,none⟩) b.length d] 24 (0,0)):=q7;clear c0 c1 f0 q6;have c0:=ah q7 0;have c1:=ah q7 1;have hl7:=(Fw.1 q7).1;have hF7:IsF w7 (.agg #[.slice (some ⟨g',0,none⟩) (bv a (i+1)).length c',.slice (some ⟨bb,oo,none⟩) b.length d]) (bv a (i+1)) b:=⟨_,_,_,_,rfl,HI7.out,HBw.out.below B7.out⟩;have HH:=Fi (kw _ (bv a (i+1)) b ⟨#[49]⟩ w7 hF7 ob1 (by rw[jk];omega) (by omega) (HG0.out.below B7.out).g);clear hF7;by_cases hh:cI (bv a (i+1)) b ⟨#[49]⟩=true
     ·rw[hh] at HH
      have HR:=Fi (show eh a b (7-(i+1)) (i+1)=eh a b 7 0 by
       have h:=HR.out;rw[if_pos hh] at h
       rw[show 7-(i+1)=6-i from by omega];exact h)
      clear hh;go_wp2_with fail
      refine HH.out.mono ?_;rintro e w8 ⟨rfl,hb8⟩;have q8:=Fi ((hb8.block w.heap.size hl7).trans q7);have HI8:=Fi (HI7.out.below hb8);have B8:=Fi (B7.out.trans (hb8.mono B7.out.size));clear hb8 q7 c0 c1 HH;go_wp2;go_roundw;case rel=>exact⟨i+1,g',0,c',by go_num,by omega,q8.out,HI8.out,by omega,B8.out,HR.out⟩
      case measure=>(first | (simp[intOf];done) | (simp[intOf];omega))
     ·have hh':cI (bv a (i+1)) b ⟨#[49]⟩=false:=by simpa using hh
      rw[hh'] at HH
      have HE:=Fi (show eJ a b=(((i:Nat):Int),0) by
       have h:=HR.out;rw[if_neg hh] at h
       rw[HT.out,←h])
      clear hh hh';go_wp2_with fail
      refine HH.out.mono ?_;rintro e w8 ⟨rfl,hb8⟩;have B8:=Fi (B7.out.trans (hb8.mono B7.out.size));clear hb8 q7 c0 c1 HH;go_wp2;refine bodyPost_ret (v:=.tuple #[.int .i64 i,.int .i64 0]) (by simp[results,Tryz.results51,go_sem]) rfl ⟨by rw[HE.out],B8.out⟩
    ·have hd:decide (((bv a i).length:Int)≤6)=false:=by rw[hdl];simp;omega
     have HE:=Fi (show eJ a b=(((i:Nat):Int),0) by
      rw[HT.out,←hrec.out]
      have e:∀ n,eh a b n i=i:=by intro n;cases n with
       | zero=>rfl
       | succ n=>simp only[eh,if_neg h6]
      rw[e])
     clear hdl hrec h6 hin;go_wp2;refine bodyPost_ret (v:=.tuple #[.int .i64 i,.int .i64 0]) (by simp[results,Tryz.results51,go_sem]) rfl ⟨by rw[HE.out],hbr⟩
  ·have hh':cI a b ⟨#[49]⟩=false:=by simpa using hh
   rw[hh'] at HH;have HE:=Fi (show eJ a b=(0,31) by rw[HT.out,if_neg hh]);clear hh hh' HT;go_wp2_with fail
   refine HH.out.mono ?_;rintro e w3 ⟨rfl,hb3⟩;go_wp2;refine bodyPost_ret (v:=.tuple #[.int .i64 0,.int .i64 31]) (by simp[results,Tryz.results51,go_sem]) rfl ⟨by rw[HE.out],M2.out.trans (hb3.mono M2.out.size)⟩
 ·have HE:=Fi (show eJ a b=(0,30) by unfold eJ;rw[if_neg hck]);have hce:aB a b=30:=by unfold aB;rw[if_neg hck]
  rw[hce] at HCK;clear hce;go_wp2_with fail
  refine HCK.out.mono ?_;rintro e w2 ⟨rfl,hb2⟩;go_wp2;refine bodyPost_ret (v:=.tuple #[.int .i64 0,.int .i64 30]) (by simp[results,Tryz.results51,go_sem]) rfl ⟨by rw[HE.out],M1.out.trans (hb2.mono M1.out.size)⟩
theorem bW.lowerS {w:World}{base base':Nat}{v:Value}{l:List ByteArray} (h:bW w base v l) (hb:base'≤base):bW w base' v l:=by
 obtain⟨hlen,h⟩:=h;refine⟨hlen,?_⟩;rcases h with h | ⟨g,cap,cur,rfl,hg,r⟩
 ·exact Or.inl h
 ·exact Or.inr ⟨g,cap,cur,rfl,FB hb hg,r⟩
end Go.Proofs.YtbnkpcfjechfiaaGreatDoor
