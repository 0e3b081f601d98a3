/- Lemmas of this claim. -/
import Derived.Test.YtbnkpcfjechfiaaGreatDoorZLP13
set_option linter.all false
set_option maxRecDepth 100000
set_option maxHeartbeats 8000000
namespace Go.Proofs.YtbnkpcfjechfiaaGreatDoor
open Go.RowKit Dg
def gW (fa fb:List ByteArray) (k:ByteArray):List ByteArray:=j5 (fa.map (fun a=>dj a k)) fb
def cH (fa fb:List ByteArray) (k:ByteArray):Bool:=if aD (gW fa fb k) 0=⟨#[48]⟩ then false else (aY ((gW fa fb k).map (fun a=>dl a (aD (gW fa fb k) 0)))).isSome
theorem EU (k:ByteArray) (g:Nat) (w:World) (hc:w.cell? ⟨g,0,none⟩=some (.string k)) (hg:g<w.heap.size) (hG:Gw w) :
  FnT 205 #[.pointer (some ⟨g,0,none⟩)] (fun a=>dj a k) w:=by
 refine⟨bV Tryz.func205 rfl (by kernel_rfl),fun x w' hb=>?_⟩
 have c0:=ag hb hg hc
 have HG:=Ff (hG.below hb)
 show Calls _ _ #[_,_] _ _
 go_enter Tryz.func205,Tryz.ntmps205
 go_wp2_with fail
 refine (fD _ _ w' HG.out).mono ?_
 rintro e w1 ⟨rfl,hb1⟩
 go_wp2
 go_ret
 exact⟨rfl,hb1⟩
theorem pA (fa fb:List ByteArray) (k:ByteArray):(gW fa fb k).length=max fa.length fb.length:=by unfold gW;rw[oF,FF]
theorem mv (v:Value) (fa fb:List ByteArray) (k:ByteArray) (w:World) (hF:IsF w v fa fb) (h2:fa.length<1000) (h3:fb.length<1000) (hG:Gw w) :
  Calls Tryz.prog 154 #[v,.string k] w fun e w'=>∃ u,e=.returned u∧IsS w' u (gW fa fb k)∧Below w.heap.size w w':=by
 obtain⟨p,c,q,d,rfl,hfa,hfb⟩:=id hF.ex
 go_enter Tryz.func154,Tryz.ntmps154
 go_upto_region 1 with fail
 have cc:=aE w (.slice p fa.length c) (.slice q fb.length d)
 have m1:=aj w (.cells #[.slice p fa.length c,.slice q fb.length d] 24)
 have z1:=size_alloc w (.cells #[.slice p fa.length c,.slice q fb.length d] 24)
 generalize w.alloc (.cells #[.slice p fa.length c,.slice q fb.length d] 24)=w1 at *
 have a0:=aG w1 #[.string k] 34 0 _ rfl
 have m2:=aj w1 (.cells #[.string k] 34)
 have z2:=size_alloc w1 (.cells #[.string k] 34)
 have b0:=ag m2 (show w.heap.size<w1.heap.size by omega) cc.1
 have b1:=ag m2 (show w.heap.size<w1.heap.size by omega) cc.2
 generalize w1.alloc (.cells #[.string k] 34)=w2 at *
 rw[z1] at a0
 have m3:Below w2.heap.size w2 w2.drew:=(Below.refl _ _).drew
 refine aw (fun w'=>∃ x:aC w2.drew.heap.size w2.drew,w'=x.w) (fun i=>i == 3||i == 6) (by kernel_rfl) (by kernel_rfl) ⟨⟨_,Below.refl _ _⟩,rfl⟩ ?_
 have a0:=ag m3 (show w.heap.size+1<w2.heap.size by omega) a0
 have b0:=ag m3 (show w.heap.size<w2.heap.size by omega) b0
 have b1:=ag m3 (show w.heap.size<w2.heap.size by omega) b1
 have hw2:w.heap.size+1<w2.drew.heap.size:=by have:=m3.size;omega
 have M2:=m1.trans (m2.mono m1.size)
 have MD:=Ff (M2.trans (m3.mono M2.size))
 have HA:=Ff (hfa.below MD.out)
 have HB:=Ff (hfb.below MD.out)
 have HG:=Ff (hG.below MD.out)
 clear m1 m2 m3 z1 z2 cc hfa hfb hG hF M2
 generalize w2.drew=wd at *
 have hz:wd.heap.size≤wd.heap.size:=Fm _
 have HFn:=Ff (EU k (w.heap.size+1) wd a0 hw2 HG.out)
 have d0:=fun x:aC wd.heap.size wd=>ag x.h (show w.heap.size<wd.heap.size by omega) b0
 have d1:=fun x:aC wd.heap.size wd=>ag x.h (show w.heap.size<wd.heap.size by omega) b1
 have hwd:=MD.out.size
 clear a0 b0 b1
 refine ak 3 0 _ _ _ (by kernel_rfl) ?_
 simp only[Fp,Ft,Fq,Fr]
 repeat (go_big_quiet_step (fail))
 refine wpQuiet_nil ?_
 refine ap rfl rfl (fun K hK=>?_)
 go_simp
 refine (wJ _ fa _ _ _ wd HA.out (by omega) HFn.out).mono ?_
 rintro e w6 ⟨u1,rfl,hu1,hb6⟩
 obtain⟨L1,hL1⟩:∃ L,L=fa.map (fun a=>dj a k):=⟨_,rfl⟩
 have hl1:L1.length<1000:=by rw[hL1,FF];exact h2
 have HC:=Ff (show gW fa fb k=j5 L1 fb by unfold gW;rw[←hL1])
 rw[←hL1] at hu1
 clear hL1
 refine hK _ _ ⟨⟨_,(hb6).mono hz⟩,rfl⟩ ?_
 clear hK K
 try simp only[Act.put,Fj,Fi,Fh,Fg,Fk,Fl]
 refine ak 2 4 _ _ _ (by kernel_rfl) ?_
 simp only[Fp,Ft,Fq,Fr]
 repeat (go_big_quiet_step (fail))
 refine wpQuiet_nil ?_
 refine ap rfl rfl (fun K hK=>?_)
 go_simp
 refine (sumN _ _ L1 fb w6 hu1.isS (HB.out.below hb6) (by omega) (by omega) (HG.out.below hb6)).mono ?_
 rintro e w7 ⟨u2,rfl,hu2,hb7⟩
 have hB7:=hb6.trans (hb7.mono hb6.size)
 refine hK _ _ ⟨⟨_,(hB7).mono hz⟩,rfl⟩ ?_
 clear hK K
 try simp only[Act.put,Fj,Fi,Fh,Fg,Fk,Fl]
 refine ak 1 7 _ _ _ (by kernel_rfl) ?_
 simp only[Fp,Ft,Fq,Fr]
 repeat (go_big_quiet_step (fail))
 refine wpQuiet_nil ?_
 refine aI ?_
 rw[←HC.out] at hu2
 have HU:=Ff hu2
 have hb66:=hb6.size
 have MF:=Ff (MD.out.trans (hB7.mono hwd))
 clear hu2 hu1 hb7 hB7 d0 d1
 go_wp2
 go_ret
 exact⟨_,rfl,HU.out.isS,MF.out⟩
theorem Eb (s:List ByteArray) (h0:0<s.length) (k:Nat) (p:Option Addr) (n c:Nat) (w:World) (hs:IsS w (.slice p n c) s) (hn:n=s.length) (hc:w.cell? ⟨k,0,none⟩=some (.slice p n c)) (hk:k<w.heap.size) (hG:Gw w) :
  FnT 155 #[.pointer (some ⟨k,0,none⟩)] (fun a=>dl a (aD s 0)) w:=by
 refine⟨bV Tryz.func155 rfl (by kernel_rfl),fun x w0 hw=>?_⟩
 obtain⟨b,o,rfl,hlt,hcs⟩:=hs.all h0
 have c0:=ag hw hk hc
 have c1:w0.cell? ⟨b,o,none⟩=some (.string (aD s 0)):=by simpa using ag hw hlt (hcs 0 h0)
 have HD:=Ff (gh x (aD s 0) w0 (hG.below hw))
 have hnp:0<n:=by omega
 clear hcs hs hn
 show Calls _ _ #[_,.pointer (some ⟨k,0,none⟩)] _ _
 go_enter Tryz.func155,Tryz.ntmps155
 go_wp2_with fail
 refine HD.out.mono ?_
 rintro e w1 ⟨rfl,hb1⟩
 go_wp2
 go_ret
 exact⟨rfl,hb1⟩
theorem ko (v:Value) (fa fb:List ByteArray) (k:ByteArray) (w:World) (hF:IsF w v fa fb) (h1:0<fb.length) (h2:fa.length<1000) (h3:fb.length<1000) (hG:Gw w) :
  Calls Tryz.prog 106 #[v,.string k] w fun e w'=>e=.returned (.bool (cH fa fb k))∧Below w.heap.size w w':=by
 obtain⟨p,c,q,d,rfl,hfa,hfb⟩:=id hF.ex
 go_enter Tryz.func106,Tryz.ntmps106
 go_upto_region 1 with fail
 have cc:=aE w (.slice p fa.length c) (.slice q fb.length d)
 have m1:=aj w (.cells #[.slice p fa.length c,.slice q fb.length d] 24)
 have HC:=Ff (mv _ fa fb k _ (hF.below m1) h2 h3 (hG.below m1))
 have HG:=Ff (hG.below m1)
 have M1:=Ff m1
 generalize w.alloc (.cells #[.slice p fa.length c,.slice q fb.length d] 24)=w1 at *
 have c0:=cc.1
 have c1:=cc.2
 have hsl:0<(gW fa fb k).length:=by rw[pA];omega
 have hsl2:(gW fa fb k).length<1000:=by rw[pA];omega
 have HT:=Ff (show cH fa fb k=if aD (gW fa fb k) 0=⟨#[48]⟩ then false else (aY ((gW fa fb k).map (fun a=>dl a (aD (gW fa fb k) 0)))).isSome from rfl)
 clear hF hG hfa hfb m1 cc
 generalize gW fa fb k=s at *
 go_wp2_with fail
 refine HC.out.mono ?_
 rintro e w2 ⟨u,rfl,hu,hb2⟩
 have hi:=hu
 obtain⟨pu,cu,rfl,-⟩:=id hi.form
 obtain⟨b,o,rfl,hlt,hcs⟩:=hi.all hsl
 have hcs0:w2.cell? ⟨b,o,none⟩=some (.string (aD s 0)):=by simpa using hcs 0 hsl
 have M2:=M1.out.trans (hb2.mono M1.out.size)
 clear hu hcs c0 c1 HC
 go_upto_region 2 with fail
 have a5:(w2.alloc (.cells #[.slice (some ⟨b,o,none⟩) s.length cu] 22)).cell? ⟨w2.heap.size,0,none⟩=some (.slice (some ⟨b,o,none⟩) s.length cu):=aG w2 _ _ 0 _ rfl
 have m3:=aj w2 (.cells #[.slice (some ⟨b,o,none⟩) s.length cu] 22)
 have z3:=size_alloc w2 (.cells #[.slice (some ⟨b,o,none⟩) s.length cu] 22)
 generalize w2.alloc (.cells #[.slice (some ⟨b,o,none⟩) s.length cu] 22)=w3 at *
 have e0:=ag m3 hlt hcs0
 have M3:=Ff (M2.trans (m3.mono M2.size))
 have HG3:=Ff (HG.out.below (hb2.trans (m3.mono hb2.size)))
 have HI:=Ff (hi.below m3)
 have HFn:=Ff (Eb s hsl w2.heap.size (some ⟨b,o,none⟩) s.length cu w3 HI.out rfl a5 (by omega) HG3.out)
 clear m3 z3 hi hcs0 M2 M1 hb2 HG hlt
 by_cases heq:aD s 0=⟨#[48]⟩
 ·have HE:=Ff (show cH fa fb k=false by rw[HT.out,if_pos heq])
  have hd:((aD s 0).toList == [48])=true:=by rw[heq,av];rfl
  clear heq
  go_wp2
  go_ret
  exact⟨by rw[HE.out];rfl,M3.out⟩
 ·have HE:=Ff (show cH fa fb k=(aY (s.map (fun a=>dl a (aD s 0)))).isSome by rw[HT.out,if_neg heq])
  have hd:((aD s 0).toList == [48])=false:=by
   rw[F_]
   intro h
   refine heq (iM ?_)
   rw[←av]
   simpa using h
  clear heq
  go_wp2_with fail
  refine (wJ _ s _ _ _ w3 HI.out (by omega) HFn.out).mono ?_
  rintro e w6 ⟨u1,rfl,hu1,hb6⟩
  obtain⟨L1,hL1⟩:∃ L,L=s.map (fun a=>dl a (aD s 0)):=⟨_,rfl⟩
  have hl1:L1.length=s.length:=by rw[hL1,FF]
  rw[←hL1] at hu1 HE
  have HI1:=Ff hu1.isS
  have hl2:0<L1.length:=by omega
  have hl3:L1.length<1000000:=by omega
  clear hL1 hl1 hu1
  go_wp2_with fail
  refine (lg _ L1 w6 HI1.out hl2 hl3 (HG3.out.below hb6)).mono ?_
  rintro e w7 ⟨rfl,hb7⟩
  have MF:=Ff (M3.out.trans ((hb6.trans (hb7.mono hb6.size)).mono M3.out.size))
  clear hb6 hb7
  go_wp2
  go_ret
  exact⟨by rw[HE.out];rfl,MF.out⟩
theorem vw (va vb:Value) (a b:List ByteArray) (w:World) (ha:IsS w va a) (hb:IsS w vb b) (hG:Gw w) :
  Calls Tryz.prog 196 #[va,vb] w fun e w'=>∃ v',e=.returned v'∧IsS w' v' (bS CQ.add a b).1∧Below w.heap.size w w':=by
 have HC:=Ff (Bf va vb a b w ha hb hG)
 clear ha hb hG
 generalize bS CQ.add a b=r at *
 go_enter Tryz.func196,Tryz.ntmps196
 go_wp2_with fail
 refine HC.out.mono ?_
 rintro e w1 ⟨v,rfl,hv,hb⟩
 go_wp2
 go_ret
 exact⟨_,rfl,hv,hb⟩
theorem CW (va vb:Value) (a b:List ByteArray) (w:World) (ha:IsS w va a) (hb:IsS w vb b) (hG:Gw w) :
  Calls Tryz.prog 197 #[va,vb] w fun e w'=>∃ v',e=.returned v'∧IsS w' v' (bS CQ.sub a b).1∧Below w.heap.size w w':=by
 have HC:=Ff (Bg va vb a b w ha hb hG)
 clear ha hb hG
 generalize bS CQ.sub a b=r at *
 go_enter Tryz.func197,Tryz.ntmps197
 go_wp2_with fail
 refine HC.out.mono ?_
 rintro e w1 ⟨v,rfl,hv,hb⟩
 go_wp2
 go_ret
 exact⟨_,rfl,hv,hb⟩
def iP (fa fb:List ByteArray) (l:List ByteArray):Int:=if aB fa fb=true then if 32<l.length then 3 else if (l.all fun s=>bX s.data.toList)=true then 0 else 2 else 30
theorem D_ (v vl:Value) (a b l:List ByteArray) (w:World) (hF:IsF w v a b) (hl:IsS w vl l) (hG:Gx w) :
  Calls Tryz.prog 105 #[v,vl] w fun e w'=>e=.returned (.int .i64 (iP a b l))∧Below w.heap.size w w':=by
 obtain⟨pl,cl,rfl,-⟩:=id hl.form
 have HL:=Ff hl
 have HGG:=Ff hG
 clear hl
 obtain⟨p,c,q,d,rfl,hfa,hfb⟩:=id hF.ex
 go_enter Tryz.func105,Tryz.ntmps105
 go_upto_region 1 with fail
 have cc:=aE w (.slice p a.length c) (.slice q b.length d)
 have m1:=aj w (.cells #[.slice p a.length c,.slice q b.length d] 24)
 have zz:=size_alloc w (.cells #[.slice p a.length c,.slice q b.length d] 24)
 generalize w.alloc (.cells #[.slice p a.length c,.slice q b.length d] 24)=w1 at *
 have HCK:=Ff (fm _ a b w1 (hF.below m1) (hG.below m1))
 have HA:=Ff (hfa.below m1)
 have HB:=Ff (hfb.below m1)
 have HG:=Ff (hG.below m1)
 have c0:=cc.1
 have c1:=cc.2
 have hlt:w.heap.size<w1.heap.size:=by omega
 have M1:=Ff m1
 clear hfa hfb cc zz m1 hF hG
 by_cases hck:aB a b=true
 ·have HT:=Ff (show iP a b l=if 32<l.length then 3 else if (l.all fun s=>bX s.data.toList)=true then 0 else 2 by unfold iP;rw[if_pos hck])
  have hce:aA a b=0:=by unfold aA;rw[if_pos hck]
  rw[hce] at HCK
  obtain⟨ob1,ob7,oa1,oa7,oac,obc,ohd⟩:=bf hck
  clear hce
  go_wp2_with fail
  refine HCK.out.mono ?_
  rintro e w2 ⟨rfl,hb2⟩
  have d0:=ag hb2 hlt c0
  have d1:=ag hb2 hlt c1
  have HA2:=Ff (HA.out.below hb2)
  have HB2:=Ff (HB.out.below hb2)
  have HG2:=Ff (HG.out.below hb2)
  have M2:=Ff (M1.out.trans (hb2.mono M1.out.size))
  have hlt2:w.heap.size<w2.heap.size:=Fo hlt hb2.size
  clear c0 c1 HA HB HG HCK M1 hb2 hlt
  clear d0 d1 HA2 HB2 hlt2 oac obc ohd ob1 ob7 oa1 oa7 hck
  by_cases h32:32<l.length
  ·have HE:=Ff (show iP a b l=3 by rw[HT.out,if_pos h32])
   have hd:decide ((32:Int)<(l.length:Int))=true:=by simp;omega
   clear h32
   go_wp2
   go_ret
   exact⟨by rw[HE.out];rfl,M2.out⟩
  ·rw[if_neg h32] at HT
   have hd:decide ((32:Int)<(l.length:Int))=false:=by simp;omega
   go_wp2
   go_loopw [18] (fun s18 wr=>∃ i:Nat,s18=.int .i64 i∧i≤l.length∧Below w.heap.size w wr∧Hid (Gx wr)∧Hid (((l.take i).all fun s=>bX s.data.toList)=true)) (fun s18 _=>l.length-(intOf s18).toNat)
   case atStart=>exact⟨0,rfl,Fy _,M2.out,HG2.out,rfl⟩
   case round =>
    obtain⟨i,rfl,hin,hbr,HGr,hall⟩:=hrel
    by_cases hi:i<l.length
    ·obtain⟨bb,oo,rfl,hlt,hcell⟩:=(HL.out.below hbr).get hi
     have HS:=Ff (jj hi (fun s=>bX s.data.toList))
     have HN:=Ff (m7 hi (fun s=>bX s.data.toList))
     generalize l[i]=s at *
     go_wp2_with fail
     refine (se s wr HGr.out).mono ?_
     rintro e w3 ⟨ok,rfl,hok,hb3⟩
     have hB3:=hbr.trans (hb3.mono hbr.size)
     cases ok
     ·have HE:=Ff (show iP a b l=2 by rw[HT.out,if_neg (by rw[HN.out hok.out];decide)])
      clear HS HN hok hall hcell hd h32
      go_wp2
      go_ret
      exact⟨by rw[HE.out];rfl,hB3⟩
     ·have HA3:=Ff (show ((l.take (i+1)).all fun s=>bX s.data.toList)=true by rw[HS.out,hall.out,hok.out];rfl)
      have HG3:=Ff (HGr.out.below hb3)
      clear HS HN hok hall hcell hbr HGr hb3
      go_wp2
      go_roundw
      case rel=>exact⟨i+1,by go_num,by omega,hB3,HG3,HA3⟩
      case measure=>(first | (simp[intOf];done) | (simp[intOf];omega))
    ·have hin':i=l.length:=by omega
     subst hin'
     have HE:=Ff (show iP a b l=0 by
      have h:=hall.out
      rw[FO] at h
      rw[HT.out,if_pos h])
     clear hi hall hd h32
     go_wp2
     go_ret
     exact⟨by rw[HE.out];rfl,hbr⟩
 ·have HE:=Ff (show iP a b l=30 by unfold iP;rw[if_neg hck])
  have hce:aA a b=30:=by unfold aA;rw[if_neg hck]
  rw[hce] at HCK
  clear hce
  go_wp2_with fail
  refine HCK.out.mono ?_
  rintro e w2 ⟨rfl,hb2⟩
  go_wp2
  go_ret
  exact⟨by rw[HE.out];rfl,M1.out.trans (hb2.mono M1.out.size)⟩
def bv (fa:List ByteArray) (i:Nat):List ByteArray:=List.replicate i ⟨#[48]⟩++fa
theorem jn (fa:List ByteArray) (i:Nat):(bv fa i).length=i+fa.length:=by simp[bv]
theorem qK (fa:List ByteArray) (i:Nat):bv fa (i+1)=[⟨#[48]⟩]++bv fa i:=by simp[bv,Hh]
def ew (fa fb:List ByteArray):Nat→Nat→Nat
 | 0,i=>i
 | n+1,i=>if i+fa.length≤6 then if cH (bv fa (i+1)) fb ⟨#[49]⟩=true then ew fa fb n (i+1) else i else i
theorem qL (fa fb:List ByteArray) (n i:Nat):ew fa fb (n+1) i=if i+fa.length≤6 then if cH (bv fa (i+1)) fb ⟨#[49]⟩=true then ew fa fb n (i+1) else i else i:=rfl
def eT (fa fb:List ByteArray):Int×Int:=if aB fa fb=true then if cH fa fb ⟨#[49]⟩=true then (((ew fa fb 7 0:Nat):Int),0) else (0,31) else (0,30)
theorem xr (w:World) (base:Nat) (t:ByteArray) (hb:base≤w.heap.size):cL (w.alloc (.cells #[.string t] 34)) base (.slice (some ⟨w.heap.size,0,none⟩) 1 1) [t] :=
 World.ownsRow_lit w #[.string t] 1 hb (by simp[maxLen]) rfl
theorem Cn (v:Value) (a b:List ByteArray) (w:World) (hF:IsF w v a b) (hG:Gx w) :
  Calls Tryz.prog 51 #[v] w fun e w'=>e=.returned (.tuple #[.int .i64 (eT a b).1,.int .i64 (eT a b).2])∧Below w.heap.size w w':=by
 have HF0:=Ff hF
 have HG0:=Ff hG
 obtain⟨p,c,q,d,rfl,hfa,hfb⟩:=id hF.ex
 go_enter Tryz.func51,Tryz.ntmps51
 go_upto_region 1 with fail
 have q1:=heap_alloc_new w (.cells #[.slice p a.length c,.slice q b.length d] 24)
 have m1:=aj w (.cells #[.slice p a.length c,.slice q b.length d] 24)
 have z1:=size_alloc w (.cells #[.slice p a.length c,.slice q b.length d] 24)
 generalize w.alloc (.cells #[.slice p a.length c,.slice q b.length d] 24)=w1 at *
 have hlt:w.heap.size<w1.heap.size:=by omega
 have HCK:=Ff (fm _ a b w1 (hF.below m1) (hG.below m1))
 have c0:=ar q1 0
 have c1:=ar q1 1
 have M1:=Ff m1
 clear hF hG z1 m1
 by_cases hck:aB a b=true
 ·have HT:=Ff (show eT a b=if cH a b ⟨#[49]⟩=true then (((ew a b 7 0:Nat):Int),0) else (0,31) by unfold eT;rw[if_pos hck])
  have hce:aA a b=0:=by unfold aA;rw[if_pos hck]
  rw[hce] at HCK
  obtain⟨ob1,ob7,oa1,oa7,-,-,-⟩:=bf hck
  clear hce
  go_wp2_with fail
  refine HCK.out.mono ?_
  rintro e w2 ⟨rfl,hb2⟩
  have q2:=(hb2.block w.heap.size hlt).trans q1
  have hlt2:w.heap.size<w2.heap.size:=Fo hlt hb2.size
  have M2:=Ff (M1.out.trans (hb2.mono M1.out.size))
  have HH:=Ff (ko _ a b ⟨#[49]⟩ w2 (HF0.out.below M2.out) ob1 (by omega) (by omega) (HG0.out.below M2.out).g)
  clear q1 c0 c1 hb2 hlt M1 HCK hck
  have c0:=ar q2 0
  have c1:=ar q2 1
  by_cases hh:cH a b ⟨#[49]⟩=true
  ·rw[hh] at HH
   have HT:=Ff (show eT a b=(((ew a b 7 0:Nat):Int),0) by rw[HT.out,if_pos hh])
   clear hh
   go_wp2_with fail
   refine HH.out.mono ?_
   rintro e w3 ⟨rfl,hb3⟩
   have q3:=(hb3.block w.heap.size hlt2).trans q2
   have hlt3:w.heap.size<w3.heap.size:=Fo hlt2 hb3.size
   have M3:=Ff (M2.out.trans (hb3.mono M2.out.size))
   obtain⟨bb,oo,rfl,hbl,-⟩:=hfb.get (i:=0) ob1
   obtain⟨ba,oa,rfl,hal,-⟩:=hfa.get (i:=0) oa1
   clear q2 c0 c1 hb3 hlt2 M2 HH
   go_wp2
   have HA0:=Ff (hfa.below M3.out)
   have HBw:=Ff hfb
   clear hfa hfb
   have HQ3:=Ff q3
   clear q3
   have ha1:bv a 0=a:=rfl
   have HA1:=Ff ha1
   clear ha1
   go_loopw [5] (fun s5 wr=>∃ (i:Nat) (px ox cx:Nat),s5=.int .i64 i∧i+a.length≤7∧wr.heap[w.heap.size]?=some (.cells #[.slice (some ⟨px,ox,none⟩) (bv a i).length cx,.slice (some ⟨bb,oo,none⟩) b.length d] 24 (0,0))∧IsS wr (.slice (some ⟨px,ox,none⟩) (bv a i).length cx) (bv a i)∧px≠w.heap.size∧Below w.heap.size w wr∧Hid (ew a b (7-i) i=ew a b 7 0)) (fun s5 _=>7-(intOf s5).toNat)
   case atStart=>exact⟨0,ba,oa,c,rfl,by omega,HQ3.out,HA0.out,by omega,M3.out,rfl⟩
   case round =>
    obtain⟨i,px,ox,cx,rfl,hi7,qr,hin,hpx,hbr,hrec⟩:=hrel
    have hlr:w.heap.size<wr.heap.size:=(Fs.1 qr).1
    have c0:=ar qr 0
    have c1:=ar qr 1
    have hdl:=jn a i
    by_cases h6:i+a.length≤6
    ·have hd:decide (((bv a i).length:Int)≤6)=true:=by rw[hdl];simp;omega
     have HDL:=Ff hdl
     have hrec2:=hrec.out
     rw[show 7-i=(6-i)+1 from by omega] at hrec2
     rw[qL a b (6-i) i,if_pos h6] at hrec2
     have HR:=Ff hrec2
     clear hdl hrec2 hrec
     go_upto_region 8 with fail
     refine wp_region_lit ?_
     refine wpList_plain rfl (fun K hK=>?_)
     go_simp
     refine hK _ _ ?_
     clear hK K
     try simp only[Act.put,Fj,Fi,Fh,Fg,Fk,Fl]
     have m5:=aj wr (.cells #[.string ⟨#[48]⟩] 34)
     have ho:=xr wr (w.heap.size+1) ⟨#[48]⟩ hlr
     have z5:=size_alloc wr (.cells #[.string ⟨#[48]⟩] 34)
     have HI5:=hin.below m5
     have q5:=(m5.block w.heap.size hlr).trans qr
     have B5:=hbr.trans (m5.mono hbr.size)
     generalize wr.alloc (.cells #[.string ⟨#[48]⟩] 34)=w5 at *
     generalize Value.slice (some ⟨wr.heap.size,0,none⟩) 1 1=sv at ho ⊢
     have c0:=ar q5 0
     have c1:=ar q5 1
     clear hin qr m5 hbr
     refine wpList_plain rfl (fun K hK=>?_)
     go_simp
     refine hK _ _ ?_
     clear hK K
     try simp only[Act.put,Fj,Fi,Fh,Fg,Fk,Fl]
     refine wpList_plain rfl (fun K hK=>?_)
     go_simp
     refine hK _ _ ?_
     clear hK K
     try simp only[Act.put,Fj,Fi,Fh,Fg,Fk,Fl]
     refine fB 22 Tryz.underlying22 rfl (.tmp 18) (.tmp 20) rfl (w.heap.size+1) _ [⟨#[48]⟩] (bv a i) px ox cx rfl ho rfl HI5 (by rw[HDL.out];simp;omega) (by omega) ?_
     intro v' w6 hw6 hb6
     have B6:=hb6 _ _ B5 (by omega)
     have b6:=hb6 (w.heap.size+1) w5 (Below.refl _ _) (Fm _)
     have q6:=(b6.block w.heap.size (by omega)).trans q5
     rw[←qK] at hw6
     obtain⟨g',c',rfl,hg'⟩:∃ g' c',v'=.slice (some ⟨g',0,none⟩) (bv a (i+1)).length c'∧w.heap.size+1≤g':=by
      obtain⟨hlen,h⟩:=hw6
      rcases h with ⟨rfl,h0⟩ | ⟨g',cap,cur,rfl,hg',-⟩
      ·rw[jn] at h0;omega
      ·exact⟨g',cap,rfl,hg'⟩
     have HI6:=hw6.isS
     have hne:Value.ownBlock (.slice (some ⟨g',0,none⟩) (bv a (i+1)).length c')≠some w.heap.size:=fun e=>by simp[Value.ownBlock] at e;omega
     have HI7:=Ff (HI6.other hne 0 (.slice (some ⟨g',0,none⟩) (bv a (i+1)).length c'))
     have c0:=ar q6 0
     have c1:=ar q6 1
     have f0:=aQ q6 0
     have B7:=Ff (B6.setCell (p:=⟨w.heap.size,0,none⟩) (Fm _) (.slice (some ⟨g',0,none⟩) (bv a (i+1)).length c'))
     have q7:=heap_setCell_same w6 w.heap.size 0 _ 24 (.slice (some ⟨g',0,none⟩) (bv a (i+1)).length c') q6
     clear hw6 hb6 B6 b6 q5 HI5 HI6 ho hne B5 z5
     try simp only[Act.put,Fj,Fi,Fh,Fg,Fk,Fl]
     refine wpList_plain rfl (fun K hK=>?_)
     go_simp
     refine hK _ _ ?_
     clear hK K
     try simp only[Act.put,Fj,Fi,Fh,Fg,Fk,Fl]
     refine wpList_plain rfl (fun K hK=>?_)
     go_simp
     refine hK _ _ ?_
     clear hK K
     try simp only[Act.put,Fj,Fi,Fh,Fg,Fk,Fl]
     generalize w6.setCell ⟨w.heap.size,0,none⟩ (.slice (some ⟨g',0,none⟩) (bv a (i+1)).length c')=w7 at *
     have q7:w7.heap[w.heap.size]?=some (.cells #[.slice (some ⟨g',0,none⟩) (bv a (i+1)).length c',.slice (some ⟨bb,oo,none⟩) b.length d] 24 (0,0)):=q7
     clear c0 c1 f0 q6
     have c0:=ar q7 0
     have c1:=ar q7 1
     have hl7:=(Fs.1 q7).1
     have hF7:IsF w7 (.agg #[.slice (some ⟨g',0,none⟩) (bv a (i+1)).length c',.slice (some ⟨bb,oo,none⟩) b.length d]) (bv a (i+1)) b:=⟨_,_,_,_,rfl,HI7.out,HBw.out.below B7.out⟩
     have HH:=Ff (ko _ (bv a (i+1)) b ⟨#[49]⟩ w7 hF7 ob1 (by rw[jn];omega) (by omega) (HG0.out.below B7.out).g)
     clear hF7
     by_cases hh:cH (bv a (i+1)) b ⟨#[49]⟩=true
     ·rw[hh] at HH
      have HR:=Ff (show ew a b (7-(i+1)) (i+1)=ew a b 7 0 by
       have h:=HR.out
       rw[if_pos hh] at h
       rw[show 7-(i+1)=6-i from by omega];exact h)
      clear hh
      go_wp2_with fail
      refine HH.out.mono ?_
      rintro e w8 ⟨rfl,hb8⟩
      have q8:=Ff ((hb8.block w.heap.size hl7).trans q7)
      have HI8:=Ff (HI7.out.below hb8)
      have B8:=Ff (B7.out.trans (hb8.mono B7.out.size))
      clear hb8 q7 c0 c1 HH
      go_wp2
      go_roundw
      case rel=>exact⟨i+1,g',0,c',by go_num,by omega,q8.out,HI8.out,by omega,B8.out,HR.out⟩
      case measure=>(first | (simp[intOf];done) | (simp[intOf];omega))
     ·have hh':cH (bv a (i+1)) b ⟨#[49]⟩=false:=by simpa using hh
      rw[hh'] at HH
      have HE:=Ff (show eT a b=(((i:Nat):Int),0) by
       have h:=HR.out
       rw[if_neg hh] at h
       rw[HT.out,←h])
      clear hh hh'
      go_wp2_with fail
      refine HH.out.mono ?_
      rintro e w8 ⟨rfl,hb8⟩
      have B8:=Ff (B7.out.trans (hb8.mono B7.out.size))
      clear hb8 q7 c0 c1 HH
      go_wp2
      refine bodyPost_ret (v:=.tuple #[.int .i64 i,.int .i64 0]) (by simp[results,Tryz.results51,go_sem]) rfl ⟨by rw[HE.out],B8.out⟩
    ·have hd:decide (((bv a i).length:Int)≤6)=false:=by rw[hdl];simp;omega
     have HE:=Ff (show eT a b=(((i:Nat):Int),0) by
      rw[HT.out,←hrec.out]
      have e:∀ n,ew a b n i=i:=by intro n;cases n with
       | zero=>rfl
       | succ n=>simp only[ew,if_neg h6]
      rw[e])
     clear hdl hrec h6 hin
     go_wp2
     refine bodyPost_ret (v:=.tuple #[.int .i64 i,.int .i64 0]) (by simp[results,Tryz.results51,go_sem]) rfl ⟨by rw[HE.out],hbr⟩
  ·have hh':cH a b ⟨#[49]⟩=false:=by simpa using hh
   rw[hh'] at HH
   have HE:=Ff (show eT a b=(0,31) by rw[HT.out,if_neg hh])
   clear hh hh' HT
   go_wp2_with fail
   refine HH.out.mono ?_
   rintro e w3 ⟨rfl,hb3⟩
   go_wp2
   refine bodyPost_ret (v:=.tuple #[.int .i64 0,.int .i64 31]) (by simp[results,Tryz.results51,go_sem]) rfl ⟨by rw[HE.out],M2.out.trans (hb3.mono M2.out.size)⟩
 ·have HE:=Ff (show eT a b=(0,30) by unfold eT;rw[if_neg hck])
  have hce:aA a b=30:=by unfold aA;rw[if_neg hck]
  rw[hce] at HCK
  clear hce
  go_wp2_with fail
  refine HCK.out.mono ?_
  rintro e w2 ⟨rfl,hb2⟩
  go_wp2
  refine bodyPost_ret (v:=.tuple #[.int .i64 0,.int .i64 30]) (by simp[results,Tryz.results51,go_sem]) rfl ⟨by rw[HE.out],M1.out.trans (hb2.mono M1.out.size)⟩
theorem xG {a b:List ByteArray}{i:Nat} (h:a.take i=b.take i) (hi:i<a.length) (hib:i<b.length) (he:a[i]=b[i]):a.take (i+1)=b.take (i+1):=by
 rw[←Fz hi,←Fz hib,h,he]
theorem D9 (va vb:Value) (a b:List ByteArray) (w:World) (ha:IsS w va a) (hb:IsS w vb b) (hal:a.length<1000000) (hbl:b.length<1000000) :
  Calls Tryz.prog 44 #[va,vb] w fun e w'=>e=.returned (.bool (decide (a=b)))∧Below w.heap.size w w':=by
 obtain⟨pa,ca,rfl,-⟩:=id ha.form
 obtain⟨pb,cb,rfl,-⟩:=id hb.form
 have HA:=Ff ha
 have HB:=Ff hb
 clear ha hb
 go_enter Tryz.func44,Tryz.ntmps44
 by_cases hle:a.length=b.length
 ·have hd:((a.length:Int) != (b.length:Int))=false:=by simp[hle]
  have HL:=Ff hle
  clear hle
  go_wp2
  go_loopw [13] (fun s13 wr=>∃ i:Nat,s13=.int .i64 i∧i≤a.length∧Below w.heap.size w wr∧Hid (a.take i=b.take i)) (fun s13 _=>a.length-(intOf s13).toNat)
  case atStart=>exact⟨0,rfl,Fy _,Below.refl _ _,rfl⟩
  case round =>
   obtain⟨i,rfl,hin,hbr,heq⟩:=hrel
   by_cases hi:i<a.length
   ·have hib:i<b.length:=by rw[←HL.out];exact hi
    obtain⟨ba,oa,rfl,hba,hca⟩:=(HA.out.below hbr).get hi
    obtain⟨bb,ob,rfl,hbb,hcb⟩:=(HB.out.below hbr).get hib
    have HT:=Ff (fun h:a[i]=b[i]=>xG heq.out hi hib h)
    have HN:=Ff (fun (h:a[i]≠b[i]) (hab:a=b)=>h (by subst hab;rfl))
    generalize a[i]=x at *
    generalize b[i]=y at *
    by_cases hxy:x=y
    ·subst hxy
     have HT:=Ff (HT.out rfl)
     clear HN heq
     go_upto_region 6 with fail
     have m4:Below wr.heap.size wr wr.drew:=(Below.refl _ _).drew
     refine aw (fun w'=>∃ x:aC wr.heap.size wr.drew,w'=x.w) (fun _=>false) (by kernel_rfl) (by kernel_rfl) ⟨⟨_,Below.refl _ _⟩,rfl⟩ ?_
     have hbw:=hbr.trans (m4.mono hbr.size)
     have c0:=fun x:aC wr.heap.size wr.drew=>ag (m4.trans x.h) hba hca
     have c1:=fun x:aC wr.heap.size wr.drew=>ag (m4.trans x.h) hbb hcb
     clear hca hcb m4 hbr
     generalize wr.drew=wd at *
     refine ak 9 0 _ _ _ (by kernel_rfl) ?_
     simp only[Fp,Ft,Fq,Fr]
     repeat (go_big_quiet_step (fail))
     refine wpQuiet_nil ?_
     refine aI ?_
     clear c0 c1
     go_wp2
     go_roundw
     case rel=>exact⟨i+1,by go_num,by omega,hbw,HT.out⟩
     case measure=>(first | (simp[intOf];done) | (simp[intOf];omega))
    ·have hd3:(x.toList == y.toList)=false:=by
      refine F_.2 fun hb=>hxy ?_
      have e:x.toList=y.toList:=by simpa using hb
      rw[av,av] at e
      exact (iM e).trans (iM rfl).symm
     have HF:=Ff (show decide (a=b)=false from decide_eq_false (HN.out hxy))
     clear HN HT heq hxy
     go_upto_region 6 with fail
     have m4:Below wr.heap.size wr wr.drew:=(Below.refl _ _).drew
     refine aw (fun w'=>∃ x:aC wr.heap.size wr.drew,w'=x.w) (fun _=>false) (by kernel_rfl) (by kernel_rfl) ⟨⟨_,Below.refl _ _⟩,rfl⟩ ?_
     have hbw:=hbr.trans (m4.mono hbr.size)
     have c0:=fun x:aC wr.heap.size wr.drew=>ag (m4.trans x.h) hba hca
     have c1:=fun x:aC wr.heap.size wr.drew=>ag (m4.trans x.h) hbb hcb
     clear hca hcb m4 hbr
     generalize wr.drew=wd at *
     refine ak 9 0 _ _ _ (by kernel_rfl) ?_
     simp only[Fp,Ft,Fq,Fr]
     repeat (go_big_quiet_step (fail))
     refine wpQuiet_nil ?_
     refine aI ?_
     clear c0 c1
     go_wp2
     go_ret
     exact⟨by rw[HF.out];rfl,hbw⟩
   ·have hin':i=a.length:=by omega
    subst hin'
    have HF:=Ff (show decide (a=b)=true from decide_eq_true (by have h:=heq.out;rw[FO,HL.out,FO] at h;exact h))
    clear hi heq
    go_wp2
    go_ret
    exact⟨by rw[HF.out];rfl,hbr⟩
 ·have hd:((a.length:Int) != (b.length:Int))=true:=by simp;omega
  have HF:=Ff (show decide (a=b)=false from decide_eq_false (fun h=>hle (by rw[h])))
  clear hle
  go_wp2
  go_ret
  exact⟨by rw[HF.out];rfl,Below.refl _ _⟩
theorem gD (va vb:Value) (a b:List ByteArray) (w:World) (ha:IsS w va a) (hb:IsS w vb b) (hal:a.length<1000000) (hbl:b.length<1000000) :
  Calls Tryz.prog 42 #[va,vb] w fun e w'=>e=.returned (.bool (decide (a=b)))∧Below w.heap.size w w':=by
 obtain⟨pa,ca,rfl,-⟩:=id ha.form
 obtain⟨pb,cb,rfl,-⟩:=id hb.form
 have HA:=Ff ha
 have HB:=Ff hb
 clear ha hb
 go_enter Tryz.func42,Tryz.ntmps42
 by_cases hle:a.length=b.length
 ·have hd:((a.length:Int) != (b.length:Int))=false:=by simp[hle]
  have HL:=Ff hle
  clear hle
  go_wp2
  go_loopw [5] (fun s5 wr=>∃ i:Nat,s5=.int .i64 i∧i≤a.length∧Below w.heap.size w wr∧Hid (a.take i=b.take i)) (fun s5 _=>a.length-(intOf s5).toNat)
  case atStart=>exact⟨0,rfl,Fy _,Below.refl _ _,rfl⟩
  case round =>
   obtain⟨i,rfl,hin,hbr,heq⟩:=hrel
   by_cases hi:i<a.length
   ·have hib:i<b.length:=by rw[←HL.out];exact hi
    obtain⟨ba,oa,rfl,hba,hca⟩:=(HA.out.below hbr).get hi
    obtain⟨bb,ob,rfl,hbb,hcb⟩:=(HB.out.below hbr).get hib
    have HT:=Ff (fun h:a[i]=b[i]=>xG heq.out hi hib h)
    have HN:=Ff (fun (h:a[i]≠b[i]) (hab:a=b)=>h (by subst hab;rfl))
    generalize a[i]=x at *
    generalize b[i]=y at *
    by_cases hxy:x=y
    ·subst hxy
     have HT:=Ff (HT.out rfl)
     clear HN heq
     go_upto_region 6 with fail
     have m4:Below wr.heap.size wr wr.drew:=(Below.refl _ _).drew
     refine aw (fun w'=>∃ x:aC wr.heap.size wr.drew,w'=x.w) (fun _=>false) (by kernel_rfl) (by kernel_rfl) ⟨⟨_,Below.refl _ _⟩,rfl⟩ ?_
     have hbw:=hbr.trans (m4.mono hbr.size)
     have c0:=fun x:aC wr.heap.size wr.drew=>ag (m4.trans x.h) hba hca
     have c1:=fun x:aC wr.heap.size wr.drew=>ag (m4.trans x.h) hbb hcb
     clear hca hcb m4 hbr
     generalize wr.drew=wd at *
     refine ak 9 0 _ _ _ (by kernel_rfl) ?_
     simp only[Fp,Ft,Fq,Fr]
     repeat (go_big_quiet_step (fail))
     refine wpQuiet_nil ?_
     refine aI ?_
     clear c0 c1
     go_wp2
     go_roundw
     case rel=>exact⟨i+1,by go_num,by omega,hbw,HT.out⟩
     case measure=>(first | (simp[intOf];done) | (simp[intOf];omega))
    ·have hd3:(x.toList == y.toList)=false:=by
      refine F_.2 fun hb=>hxy ?_
      have e:x.toList=y.toList:=by simpa using hb
      rw[av,av] at e
      exact (iM e).trans (iM rfl).symm
     have HF:=Ff (show decide (a=b)=false from decide_eq_false (HN.out hxy))
     clear HN HT heq hxy
     go_upto_region 6 with fail
     have m4:Below wr.heap.size wr wr.drew:=(Below.refl _ _).drew
     refine aw (fun w'=>∃ x:aC wr.heap.size wr.drew,w'=x.w) (fun _=>false) (by kernel_rfl) (by kernel_rfl) ⟨⟨_,Below.refl _ _⟩,rfl⟩ ?_
     have hbw:=hbr.trans (m4.mono hbr.size)
     have c0:=fun x:aC wr.heap.size wr.drew=>ag (m4.trans x.h) hba hca
     have c1:=fun x:aC wr.heap.size wr.drew=>ag (m4.trans x.h) hbb hcb
     clear hca hcb m4 hbr
     generalize wr.drew=wd at *
     refine ak 9 0 _ _ _ (by kernel_rfl) ?_
     simp only[Fp,Ft,Fq,Fr]
     repeat (go_big_quiet_step (fail))
     refine wpQuiet_nil ?_
     refine aI ?_
     clear c0 c1
     go_wp2
     go_ret
     exact⟨by rw[HF.out];rfl,hbw⟩
   ·have hin':i=a.length:=by omega
    subst hin'
    have HF:=Ff (show decide (a=b)=true from decide_eq_true (by have h:=heq.out;rw[FO,HL.out,FO] at h;exact h))
    clear hi heq
    go_wp2
    go_ret
    exact⟨by rw[HF.out];rfl,hbr⟩
 ·have hd:((a.length:Int) != (b.length:Int))=true:=by simp;omega
  have HF:=Ff (show decide (a=b)=false from decide_eq_false (fun h=>hle (by rw[h])))
  clear hle
  go_wp2
  go_ret
  exact⟨by rw[HF.out];rfl,Below.refl _ _⟩
theorem DM (va vb:Value) (a b c d:List ByteArray) (w:World) (ha:IsF w va a b) (hb:IsF w vb c d) (h1:a.length<1000000) (h2:b.length<1000000) (h3:c.length<1000000) (h4:d.length<1000000) :
  Calls Tryz.prog 48 #[va,vb] w fun e w'=>e=.returned (.bool (decide (a=c)&&decide (b=d)))∧Below w.heap.size w w':=by
 obtain⟨p,x,q,y,rfl,hfa,hfb⟩:=id ha.ex
 obtain⟨p',x',q',y',rfl,hfc,hfd⟩:=id hb.ex
 go_enter Tryz.func48,Tryz.ntmps48
 go_upto_region 1 with fail
 have cc:=aE w (.slice p a.length x) (.slice q b.length y)
 have m1:=aj w (.cells #[.slice p a.length x,.slice q b.length y] 24)
 have z1:=size_alloc w (.cells #[.slice p a.length x,.slice q b.length y] 24)
 generalize w.alloc (.cells #[.slice p a.length x,.slice q b.length y] 24)=w1 at *
 have dd:=aE w1 (.slice p' c.length x') (.slice q' d.length y')
 have m2:=aj w1 (.cells #[.slice p' c.length x',.slice q' d.length y'] 24)
 have z2:=size_alloc w1 (.cells #[.slice p' c.length x',.slice q' d.length y'] 24)
 have b0:=ag m2 (show w.heap.size<w1.heap.size by omega) cc.1
 have b1:=ag m2 (show w.heap.size<w1.heap.size by omega) cc.2
 generalize w1.alloc (.cells #[.slice p' c.length x',.slice q' d.length y'] 24)=w2 at *
 rw[z1] at dd
 have d0:=dd.1
 have d1:=dd.2
 have M2:=Ff (m1.trans (m2.mono m1.size))
 have H1:=Ff (gD _ _ a c w2 (hfa.below M2.out) (hfc.below M2.out) h1 h3)
 have H2:=Ff (fun wx (h:Below w2.heap.size w2 wx)=>gD _ _ b d wx ((hfb.below M2.out).below h) ((hfd.below M2.out).below h) h2 h4)
 have hl1:w.heap.size<w2.heap.size:=by omega
 have hl2:w.heap.size+1<w2.heap.size:=by omega
 clear cc dd m1 m2 z1 z2 hfa hfb hfc hfd ha hb
 by_cases h:a=c
 ·have hd:decide (a=c)=true:=decide_eq_true h
  obtain⟨bb,hbb⟩:∃ bb,bb=decide (b=d):=⟨_,rfl⟩
  have HE:=Ff (show (decide (a=c)&&decide (b=d))=bb by rw[hd,hbb];rfl)
  rw[hd] at H1
  rw[←hbb] at H2
  clear h hd hbb
  go_wp2_with fail
  refine H1.out.mono ?_
  rintro e w3 ⟨rfl,hb3⟩
  have e0:=ag hb3 hl1 b0
  have e1:=ag hb3 hl1 b1
  have g0:=ag hb3 hl2 d0
  have g1:=ag hb3 hl2 d1
  clear b0 b1 d0 d1
  go_wp2_with fail
  refine (H2.out w3 hb3).mono ?_
  rintro e w4 ⟨rfl,hb4⟩
  go_wp2
  go_ret
  exact⟨by rw[HE.out];rfl,M2.out.trans ((hb3.trans (hb4.mono hb3.size)).mono M2.out.size)⟩
 ·have hd:decide (a=c)=false:=decide_eq_false h
  have HE:=Ff (show (decide (a=c)&&decide (b=d))=false by rw[hd];rfl)
  rw[hd] at H1
  clear h hd
  go_wp2_with fail
  refine H1.out.mono ?_
  rintro e w3 ⟨rfl,hb3⟩
  go_wp2
  go_ret
  exact⟨by rw[HE.out];rfl,M2.out.trans (hb3.mono M2.out.size)⟩
def aW:List ByteArray:=[⟨#[48]⟩,⟨#[49,47,50]⟩]
def aX:List ByteArray:=[⟨#[49]⟩,⟨#[45,49,47,50]⟩]
theorem wX (w:World) (s t:ByteArray):IsS (w.alloc (.cells #[.string s,.string t] 34)) (.slice (some ⟨w.heap.size,0,none⟩) 2 2) [s,t] :=
 cL.isS (base:=0) (World.ownsRow_lit w #[.string s,.string t] 2 (Fy _) (by simp[maxLen]) rfl)
theorem EZ (w:World):Calls Tryz.prog 45 #[] w fun e w'=>∃ v,e=.returned v∧IsF w' v aW aX∧Below w.heap.size w w':=by
 go_enter Tryz.func45,Tryz.ntmps45
 go_upto_region 1 with fail
 have q1:=heap_alloc_new w (.cells #[.slice none 0 0,.slice none 0 0] 24)
 have m1:=aj w (.cells #[.slice none 0 0,.slice none 0 0] 24)
 have z1:=size_alloc w (.cells #[.slice none 0 0,.slice none 0 0] 24)
 generalize w.alloc (.cells #[.slice none 0 0,.slice none 0 0] 24)=w1 at *
 have i2:=wX w1 ⟨#[48]⟩ ⟨#[49,47,50]⟩
 have m2:=aj w1 (.cells #[.string ⟨#[48]⟩,.string ⟨#[49,47,50]⟩] 34)
 have z2:=size_alloc w1 (.cells #[.string ⟨#[48]⟩,.string ⟨#[49,47,50]⟩] 34)
 have i3:=wX (w1.alloc (.cells #[.string ⟨#[48]⟩,.string ⟨#[49,47,50]⟩] 34)) ⟨#[49]⟩ ⟨#[45,49,47,50]⟩
 have m3:=aj (w1.alloc (.cells #[.string ⟨#[48]⟩,.string ⟨#[49,47,50]⟩] 34)) (.cells #[.string ⟨#[49]⟩,.string ⟨#[45,49,47,50]⟩] 34)
 have q2:=(m2.block w.heap.size (by omega)).trans q1
 have q3:=(m3.block w.heap.size (by omega)).trans q2
 have c0:=ar q3 0
 have c1:=ar q3 1
 have f0:=aQ q3 0
 have f1:=aQ q3 1
 have i2:=i2.below m3
 have M2:=m1.trans (m2.mono m1.size)
 have M3:=M2.trans (m3.mono M2.size)
 rw[z1] at i2
 rw[z2,z1] at i3
 have n1:Value.ownBlock (.slice (some ⟨w.heap.size+1,0,none⟩) 2 2)≠some w.heap.size:=fun e=>by simp[Value.ownBlock] at e
 have n2:Value.ownBlock (.slice (some ⟨w.heap.size+1+1,0,none⟩) 2 2)≠some w.heap.size:=fun e=>by simp[Value.ownBlock] at e;omega
 clear m1 m2 m3 q1 q2 z2 M2
 refine wp_region_lit ?_
 refine wpList_plain rfl (fun K hK=>?_)
 go_simp
 refine hK _ _ ?_
 clear hK K
 try simp only[Act.put,Fj,Fi,Fh,Fg,Fk,Fl]
 refine wpList_plain rfl (fun K hK=>?_)
 go_simp
 refine hK _ _ ?_
 clear hK K
 try simp only[Act.put,Fj,Fi,Fh,Fg,Fk,Fl]
 try rw[z1]
 generalize (w1.alloc (.cells #[.string ⟨#[48]⟩,.string ⟨#[49,47,50]⟩] 34)).alloc (.cells #[.string ⟨#[49]⟩,.string ⟨#[45,49,47,50]⟩] 34)=w3 at *
 clear z1
 have I2:=Ff ((i2.other n1 0 (.slice (some ⟨w.heap.size+1,0,none⟩) 2 2)).other n1 1 (.slice (some ⟨w.heap.size+1+1,0,none⟩) 2 2))
 have I3:=Ff ((i3.other n2 0 (.slice (some ⟨w.heap.size+1,0,none⟩) 2 2)).other n2 1 (.slice (some ⟨w.heap.size+1+1,0,none⟩) 2 2))
 have BB:=Ff ((M3.setCell (p:=⟨w.heap.size,0,none⟩) (Fm _) (.slice (some ⟨w.heap.size+1,0,none⟩) 2 2)).setCell (p:=⟨w.heap.size,1,none⟩) (Fm _) (.slice (some ⟨w.heap.size+1+1,0,none⟩) 2 2))
 have q4:=dL q3 (.slice (some ⟨w.heap.size+1,0,none⟩) 2 2) (.slice (some ⟨w.heap.size+1+1,0,none⟩) 2 2)
 have s0:_=some (Value.slice (some ⟨w.heap.size+1,0,none⟩) 2 2):=ar q4 0
 have s1:_=some (Value.slice (some ⟨w.heap.size+1+1,0,none⟩) 2 2):=ar q4 1
 have r0:=Ff s0
 have r1:=Ff s1
 clear i2 i3 M3 q3 q4 n1 n2 s0 s1
 go_wp2
 have s0:=r0.out
 have s1:=r1.out
 refine bodyPost_ret (v:=.agg #[(.slice (some ⟨w.heap.size+1,0,none⟩) 2 2),(.slice (some ⟨w.heap.size+1+1,0,none⟩) 2 2)]) (by simp[results,Tryz.results45,go_sem,s0,s1]) rfl ⟨_,rfl,⟨⟨_,_,_,_,rfl,I2.out,I3.out⟩⟩,BB.out⟩
def eZ (l:List ByteArray) (n:Nat):List ByteArray:=l++List.replicate (n-l.length) ⟨#[48]⟩
theorem ix (l:List ByteArray) (n:Nat):(eZ l n).length=max l.length n:=by unfold eZ;simp;omega
def DE:Value→Nat
 | .slice _ n _=>n
 | _=>0
theorem mL (v:Value) (l:List ByteArray) (n:Nat) (w:World) (hl:IsS w v l) (hpos:0<l.length) (hlen:l.length<1000000) (hn:n<1000000) :
  Calls Tryz.prog 102 #[v,.int .i64 n] w fun e w'=>∃ u,e=.returned u∧cL w' w.heap.size u (eZ l n)∧Below w.heap.size w w':=by
 have HC:=Ff (uA v l w hl hpos (by omega))
 clear hl
 go_enter Tryz.func102,Tryz.ntmps102
 go_wp2_with fail
 refine HC.out.mono ?_
 rintro e w1 ⟨u,rfl,hu,hb1⟩
 have HU:=Ff hu
 have HB1:=Ff hb1
 clear hu hb1 HC
 go_wp2_with fail
 go_loopw [5] (fun s5 wr=>∃ i:Nat,cL wr w.heap.size s5 (eZ l i)∧(i=0∨i≤n)∧Below w.heap.size w wr) (fun s5 _=>n-DE s5)
 case atStart=>exact⟨0,by unfold eZ;simpa using HU.out,Or.inl rfl,HB1.out⟩
 case round =>
  obtain⟨i,hown,hi,hbr⟩:=hrel
  have hpl:=ix l i
  obtain⟨p,c,rfl,hcc,-⟩:=hown.isS.form
  obtain⟨m,hm⟩:∃ m,m=(eZ l i).length:=⟨_,rfl⟩
  rw[←hm] at hpl hcc hown ⊢
  by_cases hlt:m<n
  ·have hi2:i≤n:=by omega
   obtain⟨j,hj⟩:∃ j,j=m:=⟨_,rfl⟩
   have hpj:eZ l (m+1)=eZ l i++[⟨#[48]⟩]:=by
    unfold eZ
    rw[FW]
    congr 1
    have e:m+1-l.length=(i-l.length)+1:=by omega
    rw[e,Iu]
   have hd:decide ((m:Int)<(n:Int))=true:=by simp;omega
   have hd2:decide (m<n)=true:=decide_eq_true hlt
   have HT:=Ff hpj
   have HM:=Ff (And.intro hm (And.intro hlt hpl))
   have hzl:(eZ l i).length<1000000000:=by omega
   have hbs:=hbr.size
   clear hpj hm hpl hi hi2 hj hlt hcc j
   go_upto_region 3 with fail
   generalize Value.slice p m c=sv at hown ⊢
   go_wp2_with (at_builtin;refine bk 22 Tryz.underlying22 rfl (.tmp 12) (.tmp 13) rfl w.heap.size _ _ _ rfl hown rfl hzl hbs ?_)
   intro v' w2 hw2 hb2
   have hB2:=hb2 _ _ hbr (Fm _)
   rw[←HT.out] at hw2
   obtain⟨p',c',rfl,-⟩:=hw2.isS.form
   clear hown hb2 hbr
   go_wp2
   go_roundw
   case rel=>exact⟨m+1,hw2,Or.inr HM.out.2.1,hB2⟩
   case measure =>
    have h1:=HM.out.2.1
    have h2:=HM.out.2.2
    have h3:=ix l (m+1)
    simp only[DE]
    omega
  ·have hd:decide ((m:Int)<(n:Int))=false:=by simp;omega
   have hd2:decide (m<n)=false:=decide_eq_false hlt
   have HE:=Ff (show eZ l i=eZ l n by
    unfold eZ;congr 2;omega)
   have HO:=Ff hown
   have HM:=Ff hm
   clear hpl hi hlt hcc hown hm
   go_wp2
   go_ret
   exact⟨_,rfl,by have h:=HO.out;rw[HE.out] at h;exact h,hbr⟩
def io (a l:List ByteArray) (k:Nat):List ByteArray:=(List.range k).map fun i=>ie (aD l i) (dj (dl (aD l k) (aD a 0)) (aD a (k-i)))
theorem lx (a l:List ByteArray) (k:Nat):(io a l k).length=k:=by simp[io]
theorem yB (a l:List ByteArray) {k i:Nat} (h:i<(io a l k).length):(io a l k)[i]=ie (aD l i) (dj (dl (aD l k) (aD a 0)) (aD a (k-i))):=by simp[io]
theorem nw (a l:List ByteArray) {k i:Nat} (h:i<k):(bP (io a l k) i).set i (ie (aD l i) (dj (dl (aD l k) (aD a 0)) (aD a (k-i))))=bP (io a l k) (i+1):=by
 have hl:i<(io a l k).length:=by rw[lx];exact h
 have:=ir (io a l k) hl
 rw[yB a l hl] at this
 exact this
def jO:Nat→List ByteArray→List ByteArray→ByteArray→ByteArray
 | 0,_,_,e=>e
 | k+1,a,b,e=>jO k (io a a k) (io a b k) (fT e (dl (dj (aD b k) (aD b k)) (aD a 0)))
def dY (fa fb:List ByteArray):ByteArray×Int :=
 if aB fa fb=true then if (aY fb).isSome=true then (jO (max fa.length fb.length) (eZ fb (max fa.length fb.length)) (eZ fa (max fa.length fb.length)) ⟨#[48]⟩,0) else (⟨#[]⟩,31) else (⟨#[]⟩,30)
set_option maxRecDepth 100000 in
example : dY aW aX = (⟨#[49, 47, 51]⟩, 0) := by decide +kernel
end Go.Proofs.YtbnkpcfjechfiaaGreatDoor
