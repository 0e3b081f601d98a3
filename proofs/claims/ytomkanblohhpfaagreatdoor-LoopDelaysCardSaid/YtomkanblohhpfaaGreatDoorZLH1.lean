/- Lemmas of this claim. -/
import Derived.Test.YtomkanblohhpfaaGreatDoorZNC9
import Derived.Test.YtomkanblohhpfaaGreatDoorZPL3
set_option linter.all false
set_option maxRecDepth 100000
set_option maxHeartbeats 8000000
namespace Go.Proofs.YtomkanblohhpfaaGreatDoor
open Go.RowKit Dg
def et (fa fb:List ByteArray) (k:ByteArray):List ByteArray:=gK (fa.map (fun a=>bX a k)) fb
def aD (fa fb:List ByteArray) (k:ByteArray):Bool:=if ax (et fa fb k) 0=⟨#[48]⟩ then false else (aU ((et fa fb k).map (fun a=>bJ a (ax (et fa fb k) 0)))).isSome
theorem wP (k:ByteArray) (g:Nat) (w:World) (hc:w.cell? ⟨g,0,none⟩=some (.string k)) (hg:g<w.heap.size) (hG:Gw w) :
  FnT 142 #[.pointer (some ⟨g,0,none⟩)] (fun a=>bX a k) w:=by
 refine⟨aH Tryz.func142 rfl (by kernel_rfl),fun x w' hb=>?_⟩
 have c0:=aa hb hg hc
 have HG:=xo (hG.below hb)
 show Calls _ _ #[_,_] _ _
 go_enter Tryz.func142,Tryz.ntmps142
 go_wp2_with fail
 refine (cW _ _ w' HG.out).mono ?_
 rintro e w1 ⟨rfl,hb1⟩
 go_wp2
 go_ret
 exact⟨rfl,hb1⟩
theorem kJ (fa fb:List ByteArray) (k:ByteArray):(et fa fb k).length=max fa.length fb.length:=by unfold et;rw[kl,yv]
theorem jn (v:Value) (fa fb:List ByteArray) (k:ByteArray) (w:World) (hF:IsF w v fa fb) (h2:fa.length<1000) (h3:fb.length<1000) (hG:Gw w) :
  Calls Tryz.prog 113 #[v,.string k] w fun e w'=>∃ u,e=.returned u∧IsS w' u (et fa fb k)∧Below w.heap.size w w':=by
 obtain⟨p,c,q,d,rfl,hfa,hfb⟩:=id hF.ex
 go_enter Tryz.func113,Tryz.ntmps113
 go_upto_region 1 with fail
 have cc:=ar w (.slice p fa.length c) (.slice q fb.length d)
 have m1:=ac w (.cells #[.slice p fa.length c,.slice q fb.length d] 24)
 have z1:=size_alloc w (.cells #[.slice p fa.length c,.slice q fb.length d] 24)
 generalize w.alloc (.cells #[.slice p fa.length c,.slice q fb.length d] 24)=w1 at *
 have a0:=ap w1 #[.string k] 31 0 _ rfl
 have m2:=ac w1 (.cells #[.string k] 31)
 have z2:=size_alloc w1 (.cells #[.string k] 31)
 have b0:=aa m2 (show w.heap.size<w1.heap.size by omega) cc.1
 have b1:=aa m2 (show w.heap.size<w1.heap.size by omega) cc.2
 generalize w1.alloc (.cells #[.string k] 31)=w2 at *
 rw[z1] at a0
 have m3:Below w2.heap.size w2 w2.drew:=(Below.refl _ _).drew
 refine aj (fun w'=>∃ x:aA w2.drew.heap.size w2.drew,w'=x.w) (fun i=>i == 3||i == 6) (by kernel_rfl) (by kernel_rfl) ⟨⟨_,Below.refl _ _⟩,rfl⟩ ?_
 have a0:=aa m3 (show w.heap.size+1<w2.heap.size by omega) a0
 have b0:=aa m3 (show w.heap.size<w2.heap.size by omega) b0
 have b1:=aa m3 (show w.heap.size<w2.heap.size by omega) b1
 have hw2:w.heap.size+1<w2.drew.heap.size:=by have:=m3.size;omega
 have M2:=m1.trans (m2.mono m1.size)
 have MD:=xo (M2.trans (m3.mono M2.size))
 have HA:=xo (hfa.below MD.out)
 have HB:=xo (hfb.below MD.out)
 have HG:=xo (hG.below MD.out)
 clear m1 m2 m3 z1 z2 cc hfa hfb hG hF M2
 generalize w2.drew=wd at *
 have hz:wd.heap.size≤wd.heap.size:=xy _
 have HFn:=xo (wP k (w.heap.size+1) wd a0 hw2 HG.out)
 have d0:=fun x:aA wd.heap.size wd=>aa x.h (show w.heap.size<wd.heap.size by omega) b0
 have d1:=fun x:aA wd.heap.size wd=>aa x.h (show w.heap.size<wd.heap.size by omega) b1
 have hwd:=MD.out.size
 clear a0 b0 b1
 refine ae 3 0 _ _ _ (by kernel_rfl) ?_
 simp only[xA,xE,xz,xD]
 repeat (go_big_quiet_step (fail))
 refine wpQuiet_nil ?_
 refine ag rfl rfl (fun K hK=>?_)
 go_simp
 refine (jP _ fa _ _ _ wd HA.out (by omega) HFn.out).mono ?_
 rintro e w6 ⟨u1,rfl,hu1,hb6⟩
 obtain⟨L1,hL1⟩:∃ L,L=fa.map (fun a=>bX a k):=⟨_,rfl⟩
 have hl1:L1.length<1000:=by rw[hL1,yv];exact h2
 have HC:=xo (show et fa fb k=gK L1 fb by unfold et;rw[←hL1])
 rw[←hL1] at hu1
 clear hL1
 refine hK _ _ ⟨⟨_,(hb6).mono hz⟩,rfl⟩ ?_
 clear hK K
 try simp only[Act.put,xv,xu,xt,xr,xw,xx]
 refine ae 2 4 _ _ _ (by kernel_rfl) ?_
 simp only[xA,xE,xz,xD]
 repeat (go_big_quiet_step (fail))
 refine wpQuiet_nil ?_
 refine ag rfl rfl (fun K hK=>?_)
 go_simp
 refine (sumN _ _ L1 fb w6 hu1.isS (HB.out.below hb6) (by omega) (by omega) (HG.out.below hb6)).mono ?_
 rintro e w7 ⟨u2,rfl,hu2,hb7⟩
 have hB7:=hb6.trans (hb7.mono hb6.size)
 refine hK _ _ ⟨⟨_,(hB7).mono hz⟩,rfl⟩ ?_
 clear hK K
 try simp only[Act.put,xv,xu,xt,xr,xw,xx]
 refine ae 1 7 _ _ _ (by kernel_rfl) ?_
 simp only[xA,xE,xz,xD]
 repeat (go_big_quiet_step (fail))
 refine wpQuiet_nil ?_
 refine aw ?_
 rw[←HC.out] at hu2
 have HU:=xo hu2
 have hb66:=hb6.size
 have MF:=xo (MD.out.trans (hB7.mono hwd))
 clear hu2 hu1 hb7 hB7 d0 d1
 go_wp2
 go_ret
 exact⟨_,rfl,HU.out.isS,MF.out⟩
theorem vW (s:List ByteArray) (h0:0<s.length) (k:Nat) (p:Option Addr) (n c:Nat) (w:World) (hs:IsS w (.slice p n c) s) (hn:n=s.length) (hc:w.cell? ⟨k,0,none⟩=some (.slice p n c)) (hk:k<w.heap.size) (hG:Gw w) :
  FnT 115 #[.pointer (some ⟨k,0,none⟩)] (fun a=>bJ a (ax s 0)) w:=by
 refine⟨aH Tryz.func115 rfl (by kernel_rfl),fun x w0 hw=>?_⟩
 obtain⟨b,o,rfl,hlt,hcs⟩:=hs.all h0
 have c0:=aa hw hk hc
 have c1:w0.cell? ⟨b,o,none⟩=some (.string (ax s 0)):=by simpa using aa hw hlt (hcs 0 h0)
 have HD:=xo (dM x (ax s 0) w0 (hG.below hw))
 have hnp:0<n:=by omega
 clear hcs hs hn
 show Calls _ _ #[_,.pointer (some ⟨k,0,none⟩)] _ _
 go_enter Tryz.func115,Tryz.ntmps115
 go_wp2_with fail
 refine HD.out.mono ?_
 rintro e w1 ⟨rfl,hb1⟩
 go_wp2
 go_ret
 exact⟨rfl,hb1⟩
theorem fL (v:Value) (fa fb:List ByteArray) (k:ByteArray) (w:World) (hF:IsF w v fa fb) (h1:0<fb.length) (h2:fa.length<1000) (h3:fb.length<1000) (hG:Gw w) :
  Calls Tryz.prog 70 #[v,.string k] w fun e w'=>e=.returned (.bool (aD fa fb k))∧Below w.heap.size w w':=by
 obtain⟨p,c,q,d,rfl,hfa,hfb⟩:=id hF.ex
 go_enter Tryz.func70,Tryz.ntmps70
 go_upto_region 1 with fail
 have cc:=ar w (.slice p fa.length c) (.slice q fb.length d)
 have m1:=ac w (.cells #[.slice p fa.length c,.slice q fb.length d] 24)
 have HC:=xo (jn _ fa fb k _ (hF.below m1) h2 h3 (hG.below m1))
 have HG:=xo (hG.below m1)
 have M1:=xo m1
 generalize w.alloc (.cells #[.slice p fa.length c,.slice q fb.length d] 24)=w1 at *
 have c0:=cc.1
 have c1:=cc.2
 have hsl:0<(et fa fb k).length:=by rw[kJ];omega
 have hsl2:(et fa fb k).length<1000:=by rw[kJ];omega
 have HT:=xo (show aD fa fb k=if ax (et fa fb k) 0=⟨#[48]⟩ then false else (aU ((et fa fb k).map (fun a=>bJ a (ax (et fa fb k) 0)))).isSome from rfl)
 clear hF hG hfa hfb m1 cc
 generalize et fa fb k=s at *
 go_wp2_with fail
 refine HC.out.mono ?_
 rintro e w2 ⟨u,rfl,hu,hb2⟩
 have hi:=hu
 obtain⟨pu,cu,rfl,-⟩:=id hi.form
 obtain⟨b,o,rfl,hlt,hcs⟩:=hi.all hsl
 have hcs0:w2.cell? ⟨b,o,none⟩=some (.string (ax s 0)):=by simpa using hcs 0 hsl
 have M2:=M1.out.trans (hb2.mono M1.out.size)
 clear hu hcs c0 c1 HC
 go_upto_region 2 with fail
 have a5:(w2.alloc (.cells #[.slice (some ⟨b,o,none⟩) s.length cu] 22)).cell? ⟨w2.heap.size,0,none⟩=some (.slice (some ⟨b,o,none⟩) s.length cu):=ap w2 _ _ 0 _ rfl
 have m3:=ac w2 (.cells #[.slice (some ⟨b,o,none⟩) s.length cu] 22)
 have z3:=size_alloc w2 (.cells #[.slice (some ⟨b,o,none⟩) s.length cu] 22)
 generalize w2.alloc (.cells #[.slice (some ⟨b,o,none⟩) s.length cu] 22)=w3 at *
 have e0:=aa m3 hlt hcs0
 have M3:=xo (M2.trans (m3.mono M2.size))
 have HG3:=xo (HG.out.below (hb2.trans (m3.mono hb2.size)))
 have HI:=xo (hi.below m3)
 have HFn:=xo (vW s hsl w2.heap.size (some ⟨b,o,none⟩) s.length cu w3 HI.out rfl a5 (by omega) HG3.out)
 clear m3 z3 hi hcs0 M2 M1 hb2 HG hlt
 by_cases heq:ax s 0=⟨#[48]⟩
 ·have HE:=xo (show aD fa fb k=false by rw[HT.out,if_pos heq])
  have hd:((ax s 0).toList == [48])=true:=by rw[heq,am];rfl
  clear heq
  go_wp2
  go_ret
  exact⟨by rw[HE.out];rfl,M3.out⟩
 ·have HE:=xo (show aD fa fb k=(aU (s.map (fun a=>bJ a (ax s 0)))).isSome by rw[HT.out,if_neg heq])
  have hd:((ax s 0).toList == [48])=false:=by
   rw[yg]
   intro h
   refine heq (fG ?_)
   rw[←am]
   simpa using h
  clear heq
  go_wp2_with fail
  refine (jP _ s _ _ _ w3 HI.out (by omega) HFn.out).mono ?_
  rintro e w6 ⟨u1,rfl,hu1,hb6⟩
  obtain⟨L1,hL1⟩:∃ L,L=s.map (fun a=>bJ a (ax s 0)):=⟨_,rfl⟩
  have hl1:L1.length=s.length:=by rw[hL1,yv]
  rw[←hL1] at hu1 HE
  have HI1:=xo hu1.isS
  have hl2:0<L1.length:=by omega
  have hl3:L1.length<1000000:=by omega
  clear hL1 hl1 hu1
  go_wp2_with fail
  refine (iB _ L1 w6 HI1.out hl2 hl3 (HG3.out.below hb6)).mono ?_
  rintro e w7 ⟨rfl,hb7⟩
  have MF:=xo (M3.out.trans ((hb6.trans (hb7.mono hb6.size)).mono M3.out.size))
  clear hb6 hb7
  go_wp2
  go_ret
  exact⟨by rw[HE.out];rfl,MF.out⟩
theorem ov (va vb:Value) (a b:List ByteArray) (w:World) (ha:IsS w va a) (hb:IsS w vb b) (hG:Gw w) :
  Calls Tryz.prog 144 #[va,vb] w fun e w'=>∃ v',e=.returned v'∧IsS w' v' (aT CQ.add a b).1∧Below w.heap.size w w':=by
 have HC:=xo (ta va vb a b w ha hb hG)
 clear ha hb hG
 generalize aT CQ.add a b=r at *
 go_enter Tryz.func144,Tryz.ntmps144
 go_wp2_with fail
 refine HC.out.mono ?_
 rintro e w1 ⟨v,rfl,hv,hb⟩
 go_wp2
 go_ret
 exact⟨_,rfl,hv,hb⟩
theorem uK (va vb:Value) (a b:List ByteArray) (w:World) (ha:IsS w va a) (hb:IsS w vb b) (hG:Gw w) :
  Calls Tryz.prog 145 #[va,vb] w fun e w'=>∃ v',e=.returned v'∧IsS w' v' (aT CQ.sub a b).1∧Below w.heap.size w w':=by
 have HC:=xo (tb va vb a b w ha hb hG)
 clear ha hb hG
 generalize aT CQ.sub a b=r at *
 go_enter Tryz.func145,Tryz.ntmps145
 go_wp2_with fail
 refine HC.out.mono ?_
 rintro e w1 ⟨v,rfl,hv,hb⟩
 go_wp2
 go_ret
 exact⟨_,rfl,hv,hb⟩
def bU (fa fb:List ByteArray) (l:List ByteArray):Int:=if au fa fb=true then if 32<l.length then 3 else if (l.all fun s=>bt s.data.toList)=true then 0 else 2 else 30
theorem sE (v vl:Value) (a b l:List ByteArray) (w:World) (hF:IsF w v a b) (hl:IsS w vl l) (hG:Gx w) :
  Calls Tryz.prog 72 #[v,vl] w fun e w'=>e=.returned (.int .i64 (bU a b l))∧Below w.heap.size w w':=by
 obtain⟨pl,cl,rfl,-⟩:=id hl.form
 have HL:=xo hl
 have HGG:=xo hG
 clear hl
 obtain⟨p,c,q,d,rfl,hfa,hfb⟩:=id hF.ex
 go_enter Tryz.func72,Tryz.ntmps72
 go_upto_region 1 with fail
 have cc:=ar w (.slice p a.length c) (.slice q b.length d)
 have m1:=ac w (.cells #[.slice p a.length c,.slice q b.length d] 24)
 have zz:=size_alloc w (.cells #[.slice p a.length c,.slice q b.length d] 24)
 generalize w.alloc (.cells #[.slice p a.length c,.slice q b.length d] 24)=w1 at *
 have HCK:=xo (cJ _ a b w1 (hF.below m1) (hG.below m1))
 have HA:=xo (hfa.below m1)
 have HB:=xo (hfb.below m1)
 have HG:=xo (hG.below m1)
 have c0:=cc.1
 have c1:=cc.2
 have hlt:w.heap.size<w1.heap.size:=by omega
 have M1:=xo m1
 clear hfa hfb cc zz m1 hF hG
 by_cases hck:au a b=true
 ·have HT:=xo (show bU a b l=if 32<l.length then 3 else if (l.all fun s=>bt s.data.toList)=true then 0 else 2 by unfold bU;rw[if_pos hck])
  have hce:av a b=0:=by unfold av;rw[if_pos hck]
  rw[hce] at HCK
  obtain⟨ob1,ob7,oa1,oa7,oac,obc,ohd⟩:=aB hck
  clear hce
  go_wp2_with fail
  refine HCK.out.mono ?_
  rintro e w2 ⟨rfl,hb2⟩
  have d0:=aa hb2 hlt c0
  have d1:=aa hb2 hlt c1
  have HA2:=xo (HA.out.below hb2)
  have HB2:=xo (HB.out.below hb2)
  have HG2:=xo (HG.out.below hb2)
  have M2:=xo (M1.out.trans (hb2.mono M1.out.size))
  have hlt2:w.heap.size<w2.heap.size:=xB hlt hb2.size
  clear c0 c1 HA HB HG HCK M1 hb2 hlt
  clear d0 d1 HA2 HB2 hlt2 oac obc ohd ob1 ob7 oa1 oa7 hck
  by_cases h32:32<l.length
  ·have HE:=xo (show bU a b l=3 by rw[HT.out,if_pos h32])
   have hd:decide ((32:Int)<(l.length:Int))=true:=by simp;omega
   clear h32
   go_wp2
   go_ret
   exact⟨by rw[HE.out];rfl,M2.out⟩
  ·rw[if_neg h32] at HT
   have hd:decide ((32:Int)<(l.length:Int))=false:=by simp;omega
   go_wp2
   go_loopw [18] (fun s18 wr=>∃ i:Nat,s18=.int .i64 i∧i≤l.length∧Below w.heap.size w wr∧Hid (Gx wr)∧Hid (((l.take i).all fun s=>bt s.data.toList)=true)) (fun s18 _=>l.length-(intOf s18).toNat)
   case atStart=>exact⟨0,rfl,xJ _,M2.out,HG2.out,rfl⟩
   case round =>
    obtain⟨i,rfl,hin,hbr,HGr,hall⟩:=hrel
    by_cases hi:i<l.length
    ·obtain⟨bb,oo,rfl,hlt,hcell⟩:=(HL.out.below hbr).get hi
     have HS:=xo (ic hi (fun s=>bt s.data.toList))
     have HN:=xo (ly hi (fun s=>bt s.data.toList))
     generalize l[i]=s at *
     go_wp2_with fail
     refine (jK s wr HGr.out).mono ?_
     rintro e w3 ⟨ok,rfl,hok,hb3⟩
     have hB3:=hbr.trans (hb3.mono hbr.size)
     cases ok
     ·have HE:=xo (show bU a b l=2 by rw[HT.out,if_neg (by rw[HN.out hok.out];decide)])
      clear HS HN hok hall hcell hd h32
      go_wp2
      go_ret
      exact⟨by rw[HE.out];rfl,hB3⟩
     ·have HA3:=xo (show ((l.take (i+1)).all fun s=>bt s.data.toList)=true by rw[HS.out,hall.out,hok.out];rfl)
      have HG3:=xo (HGr.out.below hb3)
      clear HS HN hok hall hcell hbr HGr hb3
      go_wp2
      go_roundw
      case rel=>exact⟨i+1,by go_num,by omega,hB3,HG3,HA3⟩
      case measure=>(first | (simp[intOf];done) | (simp[intOf];omega))
    ·have hin':i=l.length:=by omega
     subst hin'
     have HE:=xo (show bU a b l=0 by
      have h:=hall.out
      rw[xP] at h
      rw[HT.out,if_pos h])
     clear hi hall hd h32
     go_wp2
     go_ret
     exact⟨by rw[HE.out];rfl,hbr⟩
 ·have HE:=xo (show bU a b l=30 by unfold bU;rw[if_neg hck])
  have hce:av a b=30:=by unfold av;rw[if_neg hck]
  rw[hce] at HCK
  clear hce
  go_wp2_with fail
  refine HCK.out.mono ?_
  rintro e w2 ⟨rfl,hb2⟩
  go_wp2
  go_ret
  exact⟨by rw[HE.out];rfl,M1.out.trans (hb2.mono M1.out.size)⟩
def aq (fa:List ByteArray) (i:Nat):List ByteArray:=List.replicate i ⟨#[48]⟩++fa
theorem bT (fa:List ByteArray) (i:Nat):(aq fa i).length=i+fa.length:=by simp[aq]
theorem lE (fa:List ByteArray) (i:Nat):aq fa (i+1)=[⟨#[48]⟩]++aq fa i:=by simp[aq,y5]
def ck (fa fb:List ByteArray):Nat→Nat→Nat
 | 0,i=>i
 | n+1,i=>if i+fa.length≤6 then if aD (aq fa (i+1)) fb ⟨#[49]⟩=true then ck fa fb n (i+1) else i else i
theorem ik (fa fb:List ByteArray) (n i:Nat):ck fa fb (n+1) i=if i+fa.length≤6 then if aD (aq fa (i+1)) fb ⟨#[49]⟩=true then ck fa fb n (i+1) else i else i:=rfl
def bC (fa fb:List ByteArray):Int×Int:=if au fa fb=true then if aD fa fb ⟨#[49]⟩=true then (((ck fa fb 7 0:Nat):Int),0) else (0,31) else (0,30)
theorem pN (w:World) (base:Nat) (t:ByteArray) (hb:base≤w.heap.size):bj (w.alloc (.cells #[.string t] 31)) base (.slice (some ⟨w.heap.size,0,none⟩) 1 1) [t] :=
 World.ownsRow_lit w #[.string t] 1 hb (by simp[maxLen]) rfl
theorem oR (v:Value) (a b:List ByteArray) (w:World) (hF:IsF w v a b) (hG:Gx w) :
  Calls Tryz.prog 29 #[v] w fun e w'=>e=.returned (.tuple #[.int .i64 (bC a b).1,.int .i64 (bC a b).2])∧Below w.heap.size w w':=by
 have HF0:=xo hF
 have HG0:=xo hG
 obtain⟨p,c,q,d,rfl,hfa,hfb⟩:=id hF.ex
 go_enter Tryz.func29,Tryz.ntmps29
 go_upto_region 1 with fail
 have q1:=heap_alloc_new w (.cells #[.slice p a.length c,.slice q b.length d] 24)
 have m1:=ac w (.cells #[.slice p a.length c,.slice q b.length d] 24)
 have z1:=size_alloc w (.cells #[.slice p a.length c,.slice q b.length d] 24)
 generalize w.alloc (.cells #[.slice p a.length c,.slice q b.length d] 24)=w1 at *
 have hlt:w.heap.size<w1.heap.size:=by omega
 have HCK:=xo (cJ _ a b w1 (hF.below m1) (hG.below m1))
 have c0:=af q1 0
 have c1:=af q1 1
 have M1:=xo m1
 clear hF hG z1 m1
 by_cases hck:au a b=true
 ·have HT:=xo (show bC a b=if aD a b ⟨#[49]⟩=true then (((ck a b 7 0:Nat):Int),0) else (0,31) by unfold bC;rw[if_pos hck])
  have hce:av a b=0:=by unfold av;rw[if_pos hck]
  rw[hce] at HCK
  obtain⟨ob1,ob7,oa1,oa7,-,-,-⟩:=aB hck
  clear hce
  go_wp2_with fail
  refine HCK.out.mono ?_
  rintro e w2 ⟨rfl,hb2⟩
  have q2:=(hb2.block w.heap.size hlt).trans q1
  have hlt2:w.heap.size<w2.heap.size:=xB hlt hb2.size
  have M2:=xo (M1.out.trans (hb2.mono M1.out.size))
  have HH:=xo (fL _ a b ⟨#[49]⟩ w2 (HF0.out.below M2.out) ob1 (by omega) (by omega) (HG0.out.below M2.out).g)
  clear q1 c0 c1 hb2 hlt M1 HCK hck
  have c0:=af q2 0
  have c1:=af q2 1
  by_cases hh:aD a b ⟨#[49]⟩=true
  ·rw[hh] at HH
   have HT:=xo (show bC a b=(((ck a b 7 0:Nat):Int),0) by rw[HT.out,if_pos hh])
   clear hh
   go_wp2_with fail
   refine HH.out.mono ?_
   rintro e w3 ⟨rfl,hb3⟩
   have q3:=(hb3.block w.heap.size hlt2).trans q2
   have hlt3:w.heap.size<w3.heap.size:=xB hlt2 hb3.size
   have M3:=xo (M2.out.trans (hb3.mono M2.out.size))
   obtain⟨bb,oo,rfl,hbl,-⟩:=hfb.get (i:=0) ob1
   obtain⟨ba,oa,rfl,hal,-⟩:=hfa.get (i:=0) oa1
   clear q2 c0 c1 hb3 hlt2 M2 HH
   go_wp2
   have HA0:=xo (hfa.below M3.out)
   have HBw:=xo hfb
   clear hfa hfb
   have HQ3:=xo q3
   clear q3
   have ha1:aq a 0=a:=rfl
   have HA1:=xo ha1
   clear ha1
   go_loopw [5] (fun s5 wr=>∃ (i:Nat) (px ox cx:Nat),s5=.int .i64 i∧i+a.length≤7∧wr.heap[w.heap.size]?=some (.cells #[.slice (some ⟨px,ox,none⟩) (aq a i).length cx,.slice (some ⟨bb,oo,none⟩) b.length d] 24 (0,0))∧IsS wr (.slice (some ⟨px,ox,none⟩) (aq a i).length cx) (aq a i)∧px≠w.heap.size∧Below w.heap.size w wr∧Hid (ck a b (7-i) i=ck a b 7 0)) (fun s5 _=>7-(intOf s5).toNat)
   case atStart=>exact⟨0,ba,oa,c,rfl,by omega,HQ3.out,HA0.out,by omega,M3.out,rfl⟩
   case round =>
    obtain⟨i,px,ox,cx,rfl,hi7,qr,hin,hpx,hbr,hrec⟩:=hrel
    have hlr:w.heap.size<wr.heap.size:=(xC.1 qr).1
    have c0:=af qr 0
    have c1:=af qr 1
    have hdl:=bT a i
    by_cases h6:i+a.length≤6
    ·have hd:decide (((aq a i).length:Int)≤6)=true:=by rw[hdl];simp;omega
     have HDL:=xo hdl
     have hrec2:=hrec.out
     rw[show 7-i=(6-i)+1 from by omega] at hrec2
     rw[ik a b (6-i) i,if_pos h6] at hrec2
     have HR:=xo hrec2
     clear hdl hrec2 hrec
     go_upto_region 8 with fail
     refine wp_region_lit ?_
     refine wpList_plain rfl (fun K hK=>?_)
     go_simp
     refine hK _ _ ?_
     clear hK K
     try simp only[Act.put,xv,xu,xt,xr,xw,xx]
     have m5:=ac wr (.cells #[.string ⟨#[48]⟩] 31)
     have ho:=pN wr (w.heap.size+1) ⟨#[48]⟩ hlr
     have z5:=size_alloc wr (.cells #[.string ⟨#[48]⟩] 31)
     have HI5:=hin.below m5
     have q5:=(m5.block w.heap.size hlr).trans qr
     have B5:=hbr.trans (m5.mono hbr.size)
     generalize wr.alloc (.cells #[.string ⟨#[48]⟩] 31)=w5 at *
     generalize Value.slice (some ⟨wr.heap.size,0,none⟩) 1 1=sv at ho ⊢
     have c0:=af q5 0
     have c1:=af q5 1
     clear hin qr m5 hbr
     refine wpList_plain rfl (fun K hK=>?_)
     go_simp
     refine hK _ _ ?_
     clear hK K
     try simp only[Act.put,xv,xu,xt,xr,xw,xx]
     refine wpList_plain rfl (fun K hK=>?_)
     go_simp
     refine hK _ _ ?_
     clear hK K
     try simp only[Act.put,xv,xu,xt,xr,xw,xx]
     refine cA 22 Tryz.underlying22 rfl (.tmp 18) (.tmp 20) rfl (w.heap.size+1) _ [⟨#[48]⟩] (aq a i) px ox cx rfl ho rfl HI5 (by rw[HDL.out];simp;omega) (by omega) ?_
     intro v' w6 hw6 hb6
     have B6:=hb6 _ _ B5 (by omega)
     have b6:=hb6 (w.heap.size+1) w5 (Below.refl _ _) (xy _)
     have q6:=(b6.block w.heap.size (by omega)).trans q5
     rw[←lE] at hw6
     obtain⟨g',c',rfl,hg'⟩:∃ g' c',v'=.slice (some ⟨g',0,none⟩) (aq a (i+1)).length c'∧w.heap.size+1≤g':=by
      obtain⟨hlen,h⟩:=hw6
      rcases h with ⟨rfl,h0⟩ | ⟨g',cap,cur,rfl,hg',-⟩
      ·rw[bT] at h0;omega
      ·exact⟨g',cap,rfl,hg'⟩
     have HI6:=hw6.isS
     have hne:Value.ownBlock (.slice (some ⟨g',0,none⟩) (aq a (i+1)).length c')≠some w.heap.size:=fun e=>by simp[Value.ownBlock] at e;omega
     have HI7:=xo (HI6.other hne 0 (.slice (some ⟨g',0,none⟩) (aq a (i+1)).length c'))
     have c0:=af q6 0
     have c1:=af q6 1
     have f0:=ak q6 0
     have B7:=xo (B6.setCell (p:=⟨w.heap.size,0,none⟩) (xy _) (.slice (some ⟨g',0,none⟩) (aq a (i+1)).length c'))
     have q7:=heap_setCell_same w6 w.heap.size 0 _ 24 (.slice (some ⟨g',0,none⟩) (aq a (i+1)).length c') q6
     clear hw6 hb6 B6 b6 q5 HI5 HI6 ho hne B5 z5
     try simp only[Act.put,xv,xu,xt,xr,xw,xx]
     refine wpList_plain rfl (fun K hK=>?_)
     go_simp
     refine hK _ _ ?_
     clear hK K
     try simp only[Act.put,xv,xu,xt,xr,xw,xx]
     refine wpList_plain rfl (fun K hK=>?_)
     go_simp
     refine hK _ _ ?_
     clear hK K
     try simp only[Act.put,xv,xu,xt,xr,xw,xx]
     generalize w6.setCell ⟨w.heap.size,0,none⟩ (.slice (some ⟨g',0,none⟩) (aq a (i+1)).length c')=w7 at *
     have q7:w7.heap[w.heap.size]?=some (.cells #[.slice (some ⟨g',0,none⟩) (aq a (i+1)).length c',.slice (some ⟨bb,oo,none⟩) b.length d] 24 (0,0)):=q7
     clear c0 c1 f0 q6
     have c0:=af q7 0
     have c1:=af q7 1
     have hl7:=(xC.1 q7).1
     have hF7:IsF w7 (.agg #[.slice (some ⟨g',0,none⟩) (aq a (i+1)).length c',.slice (some ⟨bb,oo,none⟩) b.length d]) (aq a (i+1)) b:=⟨_,_,_,_,rfl,HI7.out,HBw.out.below B7.out⟩
     have HH:=xo (fL _ (aq a (i+1)) b ⟨#[49]⟩ w7 hF7 ob1 (by rw[bT];omega) (by omega) (HG0.out.below B7.out).g)
     clear hF7
     by_cases hh:aD (aq a (i+1)) b ⟨#[49]⟩=true
     ·rw[hh] at HH
      have HR:=xo (show ck a b (7-(i+1)) (i+1)=ck a b 7 0 by
       have h:=HR.out
       rw[if_pos hh] at h
       rw[show 7-(i+1)=6-i from by omega];exact h)
      clear hh
      go_wp2_with fail
      refine HH.out.mono ?_
      rintro e w8 ⟨rfl,hb8⟩
      have q8:=xo ((hb8.block w.heap.size hl7).trans q7)
      have HI8:=xo (HI7.out.below hb8)
      have B8:=xo (B7.out.trans (hb8.mono B7.out.size))
      clear hb8 q7 c0 c1 HH
      go_wp2
      go_roundw
      case rel=>exact⟨i+1,g',0,c',by go_num,by omega,q8.out,HI8.out,by omega,B8.out,HR.out⟩
      case measure=>(first | (simp[intOf];done) | (simp[intOf];omega))
     ·have hh':aD (aq a (i+1)) b ⟨#[49]⟩=false:=by simpa using hh
      rw[hh'] at HH
      have HE:=xo (show bC a b=(((i:Nat):Int),0) by
       have h:=HR.out
       rw[if_neg hh] at h
       rw[HT.out,←h])
      clear hh hh'
      go_wp2_with fail
      refine HH.out.mono ?_
      rintro e w8 ⟨rfl,hb8⟩
      have B8:=xo (B7.out.trans (hb8.mono B7.out.size))
      clear hb8 q7 c0 c1 HH
      go_wp2
      refine bodyPost_ret (v:=.tuple #[.int .i64 i,.int .i64 0]) (by simp[results,Tryz.results29,go_sem]) rfl ⟨by rw[HE.out],B8.out⟩
    ·have hd:decide (((aq a i).length:Int)≤6)=false:=by rw[hdl];simp;omega
     have HE:=xo (show bC a b=(((i:Nat):Int),0) by
      rw[HT.out,←hrec.out]
      have e:∀ n,ck a b n i=i:=by intro n;cases n with
       | zero=>rfl
       | succ n=>simp only[ck,if_neg h6]
      rw[e])
     clear hdl hrec h6 hin
     go_wp2
     refine bodyPost_ret (v:=.tuple #[.int .i64 i,.int .i64 0]) (by simp[results,Tryz.results29,go_sem]) rfl ⟨by rw[HE.out],hbr⟩
  ·have hh':aD a b ⟨#[49]⟩=false:=by simpa using hh
   rw[hh'] at HH
   have HE:=xo (show bC a b=(0,31) by rw[HT.out,if_neg hh])
   clear hh hh' HT
   go_wp2_with fail
   refine HH.out.mono ?_
   rintro e w3 ⟨rfl,hb3⟩
   go_wp2
   refine bodyPost_ret (v:=.tuple #[.int .i64 0,.int .i64 31]) (by simp[results,Tryz.results29,go_sem]) rfl ⟨by rw[HE.out],M2.out.trans (hb3.mono M2.out.size)⟩
 ·have HE:=xo (show bC a b=(0,30) by unfold bC;rw[if_neg hck])
  have hce:av a b=30:=by unfold av;rw[if_neg hck]
  rw[hce] at HCK
  clear hce
  go_wp2_with fail
  refine HCK.out.mono ?_
  rintro e w2 ⟨rfl,hb2⟩
  go_wp2
  refine bodyPost_ret (v:=.tuple #[.int .i64 0,.int .i64 30]) (by simp[results,Tryz.results29,go_sem]) rfl ⟨by rw[HE.out],M1.out.trans (hb2.mono M1.out.size)⟩
theorem wT:(Tryz.prog.info? 4).map (fun i=>(i.zero,i.size,i.bytes))=some (some (.bool false),1,1):=by kernel_rfl
def gZ (w:World) (base:Nat) (v:Value) (l:List Bool):Prop:=w.ownsRow base 4 1 v l.length (l.map .bool)
theorem gZ.below {w w':World}{base:Nat}{v:Value}{l:List Bool} (h:gZ w base v l) (hb:Below w.heap.size w w'):gZ w' base v l:=dT h hb
theorem gZ.lower {w:World}{base base':Nat}{v:Value}{l:List Bool} (h:gZ w base v l) (hb:base'≤base):gZ w base' v l:=by
 obtain⟨hlen,h⟩:=h
 refine⟨hlen,?_⟩
 rcases h with h | ⟨g,cap,cur,rfl,hg,r⟩
 ·exact Or.inl h
 ·exact Or.inr ⟨g,cap,cur,rfl,ye hb hg,r⟩
theorem gZ.nil (w:World) (base:Nat):gZ w base (.slice none 0 0) []:=World.ownsRow_nil _ _ _ _
theorem js {w:World}{ops:Array Oper}{rest:List Oper}{o:Oper}{act:Act}{Q:Exit→Act→World→Prop} (T:TypeId)
  (hT:Tryz.prog.underlying T=some (.slice 4)) (hgd:o.guard=none) (s x:Operand)
  (ho:o.op=.call { callee:=.builtin .append,args:=#[s,x],argTypes:=#[T,T] })
  (base:Nat) (v:Value) (l:List Bool) (t:Bool) (hs:act.eval s=v) (hown:gZ w base v l)
  (hx:act.eval x=.slice (some ⟨w.heap.size,0,none⟩) 1 1) (hlen:l.length<1000000000) (hbase:base≤w.heap.size)
  (h:∀ v' w',gZ w' base v' (l++[t])→(∀ B w0,Below B w0 w→B≤base→Below B w0 w')→wpList Tryz.prog ops Q rest (act.put o.dst v') w') :
  wpList Tryz.prog ops Q (o :: rest) act (w.alloc (.cells #[.bool t] 4)):=by
 obtain⟨i0,hi,hz0,hz1,hz2⟩:=info_parts wT
 refine wpList_append_own _ hgd s x T ho base 4 i0 _ 1 1 hT hi hz0 hz1 hz2 rfl (by decide) v l.length (l.map .bool) hs (World.ownsRow.alloc hown _) ⟨w.heap.size,0,none⟩ 1 1 [.bool t] hx rfl ?_ ?_ ?_ ?_ ?_ ?_
 ·intro j u hj
  match j,hj with
  | 0,hj =>
   simp at hj
   subst hj
   exact ap w _ _ 0 _ rfl
 ·intro u hu
  simp at hu
  subst hu
  rfl
 ·unfold maxLen;omega
 ·omega
 ·rw[size_alloc];omega
 ·intro v' w' hown' hg _
  refine h v' w' ?_ ?_
  ·unfold gZ
   rw[xI,Ac];exact hown'
  ·intro B w0 hb hB
   have hbs:=World.ownsRow.lt hown
   refine (hb.alloc (by omega) _).grown hg (by rw[size_alloc];omega) ?_
   intro k hk
   have:=(hbs k hk).1
   omega
def gX (a b l:List ByteArray):List Bool:=if bU a b l=0 then l.map (aD a b) else []
def qg (a b l:List ByteArray) (w:World) (e:Ending) (w':World):Prop :=
 ∃ u,e=.returned (.tuple #[u,.int .i64 (bU a b l)])∧gZ w' w.heap.size u (gX a b l)∧Below w.heap.size w w'
theorem mF {a b l:List ByteArray} (h:bU a b l=0):au a b=true∧l.length≤32:=by
 unfold bU at h
 split at h
 ·rename_i hc
  split at h
  ·cases h
  ·exact⟨hc,by omega⟩
 ·cases h
theorem rM (v vl:Value) (a b l:List ByteArray) (w:World) (hF:IsF w v a b) (hl:IsS w vl l) (hG:Gx w) :
  Calls Tryz.prog 31 #[v,vl] w (qg a b l w):=by
 obtain⟨pl,cl,rfl,-⟩:=id hl.form
 obtain⟨p,c,q,d,rfl,hfa,hfb⟩:=id hF.ex
 go_enter Tryz.func31,Tryz.ntmps31
 go_upto_region 1 with fail
 have cc:=ar w (.slice p a.length c) (.slice q b.length d)
 have m1:=ac w (.cells #[.slice p a.length c,.slice q b.length d] 24)
 have zz:=size_alloc w (.cells #[.slice p a.length c,.slice q b.length d] 24)
 generalize w.alloc (.cells #[.slice p a.length c,.slice q b.length d] 24)=w1 at *
 have HGA:=xo (sE _ _ a b l w1 (hF.below m1) (hl.below m1) (hG.below m1))
 have HF:=xo (hF.below m1)
 have HL:=xo (hl.below m1)
 have HG:=xo (hG.below m1)
 have c0:=cc.1
 have c1:=cc.2
 have hlt:w.heap.size<w1.heap.size:=by omega
 have M1:=xo m1
 clear hfa hfb cc zz m1 hF hG hl
 by_cases hga:bU a b l=0
 ·have hHL:gX a b l=l.map (aD a b):=by unfold gX;rw[if_pos hga]
  obtain⟨hck,hl32⟩:=mF hga
  obtain⟨ob1,ob7,oa1,oa7,-⟩:=aB hck
  have HE:=xo hga
  have HHL:=xo hHL
  rw[hga] at HGA
  clear hga hHL hck
  go_wp2_with fail
  refine HGA.out.mono ?_
  rintro e w2 ⟨rfl,hb2⟩
  have d0:=aa hb2 hlt c0
  have d1:=aa hb2 hlt c1
  have HF2:=xo (HF.out.below hb2)
  have HL2:=xo (HL.out.below hb2)
  have HG2:=xo (HG.out.below hb2)
  have M2:=xo (M1.out.trans (hb2.mono M1.out.size))
  have hlt2:w.heap.size<w2.heap.size:=xB hlt hb2.size
  clear c0 c1 HF HL HG HGA M1 hb2 hlt
  go_wp2
  go_loopw [7,18] (fun s7 s18 wr=>∃ i:Nat,s18=.int .i64 i∧i≤l.length∧gZ wr w2.heap.size s7 ((l.map (aD a b)).take i)∧Below w2.heap.size w2 wr) (fun _ s18 _=>l.length-(intOf s18).toNat)
  case atStart=>exact⟨0,rfl,xJ _,gZ.nil _ _,Below.refl _ _⟩
  case round =>
   obtain⟨i,rfl,hin,hown,hbr⟩:=hrel
   have d0':=aa hbr hlt2 d0
   have d1':=aa hbr hlt2 d1
   by_cases hi:i<l.length
   ·obtain⟨bb,oo,rfl,hbl,hcell⟩:=(HL2.out.below hbr).get hi
    have HT:=xo (show (l.map (aD a b)).take (i+1)=(l.map (aD a b)).take i++[aD a b l[i]] by
     rw[show (l.map (aD a b)).take (i+1)=(l.map (aD a b)).take i++[(l.map (aD a b))[i]'(by simpa using hi)] from (xG _).symm,yG])
    have HH:=xo (fL _ a b l[i] wr (HF2.out.below hbr) ob1 (by omega) (by omega) (HG2.out.below hbr).g)
    generalize l[i]=s at *
    go_wp2_with fail
    refine HH.out.mono ?_
    rintro e w3 ⟨rfl,hb3⟩
    have hB3:=hbr.trans (hb3.mono hbr.size)
    have hw3:=hown.below hb3
    have hbs:w2.heap.size≤w3.heap.size:=hB3.size
    have hzl:((l.map (aD a b)).take i).length<1000000000:=by simp;omega
    clear hb3 hbr hown hcell HH d0' d1'
    generalize aD a b s=ok at *
    go_wp2_with (at_builtin;refine js 53 Tryz.underlying53 rfl (.tmp 22) (.tmp 26) rfl w2.heap.size _ _ _ rfl hw3 rfl hzl hbs ?_)
    intro v' w4 hw4 hb4
    have hB4':=hb4 _ _ hB3 (xy _)
    rw[←HT.out] at hw4
    clear hw3 hb4 hB3
    go_wp2
    go_roundw
    case rel=>exact⟨i+1,by go_num,by omega,hw4,hB4'⟩
    case measure=>(first | (simp[intOf];done) | (simp[intOf];omega))
   ·have hin':i=l.length:=by omega
    subst hin'
    have hw:=hown
    rw[show (l.map (aD a b)).take l.length=l.map (aD a b) from xF (by simp)] at hw
    clear hown hi
    go_wp2
    refine bodyPost_ret (v:=.tuple #[u7,.int .i64 0]) (by simp[results,Tryz.results31,go_sem]) rfl ⟨_,by rw[HE.out],by rw[HHL.out];exact hw.lower M2.out.size,M2.out.trans (hbr.mono M2.out.size)⟩
 ·have hHL:gX a b l=[]:=by unfold gX;rw[if_neg hga]
  have HHL:=xo hHL
  have hne:(bU a b l == 0)=false:=by simpa using hga
  obtain⟨x,hx⟩:∃ x,x=bU a b l:=⟨_,rfl⟩
  rw[←hx] at hne HGA
  have HE:=xo hx
  clear hx
  clear hHL hga
  go_wp2_with fail
  refine HGA.out.mono ?_
  rintro e w2 ⟨rfl,hb2⟩
  go_wp2
  refine bodyPost_ret (v:=.tuple #[.slice none 0 0,.int .i64 x]) (by simp[results,Tryz.results31,go_sem]) rfl ⟨_,by rw[←HE.out],by rw[HHL.out];exact gZ.nil _ _,M1.out.trans (hb2.mono M1.out.size)⟩
end Go.Proofs.YtomkanblohhpfaaGreatDoor
