/- Lemmas of this claim. -/
import Derived.Test.YtomkanblohhpfaaGreatDoorZCoef
import Derived.Test.YtomkanblohhpfaaGreatDoorZNC5
import Derived.Test.YtomkanblohhpfaaGreatDoorZLP1
set_option linter.all false
set_option maxRecDepth 100000
set_option maxHeartbeats 8000000
namespace Go.Proofs.YtomkanblohhpfaaGreatDoor
open Go.RowKit Dg
theorem xj (v:Value) (a b:List ByteArray) (w:World) (hF:IsF w v a b) (hG:Gx w) :
  Calls Tryz.prog 12 #[v] w fun e w'=>e=.returned (.tuple #[.bool (au a b&&(aU b).isSome),.int .i64 (av a b)])∧Below w.heap.size w w':=by
 obtain⟨p,c,q,d,rfl,hfa,hfb⟩:=id hF.ex
 go_enter Tryz.func12,Tryz.ntmps12
 go_upto_region 1 with fail
 have cc:=ar w (.slice p a.length c) (.slice q b.length d)
 have m1:=ac w (.cells #[.slice p a.length c,.slice q b.length d] 24)
 have zz:=size_alloc w (.cells #[.slice p a.length c,.slice q b.length d] 24)
 generalize w.alloc (.cells #[.slice p a.length c,.slice q b.length d] 24)=w1 at *
 have HCK:=xo (cJ _ a b w1 (hF.below m1) (hG.below m1))
 have HA:=xo (hfa.below m1)
 have HB:=xo (hfb.below m1)
 have HG:=xo (hG.below m1)
 have c0:=cc.1
 have c1:=cc.2
 have hlt:w.heap.size<w1.heap.size:=by omega
 have M1:=xo m1
 clear hfa hfb cc zz m1 hF hG
 by_cases hck:au a b=true
 ·have hce:av a b=0:=by unfold av;rw[if_pos hck]
  rw[hce] at HCK
  obtain⟨ob1,ob7,oa1,oa7,oac,obc,ohd⟩:=aB hck
  clear hce
  go_wp2_with fail
  refine HCK.out.mono ?_
  rintro e w2 ⟨rfl,hb2⟩
  have d0:=aa hb2 hlt c0
  have d1:=aa hb2 hlt c1
  have HA2:=xo (HA.out.below hb2)
  have HB2:=xo (HB.out.below hb2)
  have HG2:=xo (HG.out.below hb2)
  have M2:=xo (M1.out.trans (hb2.mono M1.out.size))
  have hlt2:w.heap.size<w2.heap.size:=xB hlt hb2.size
  clear c0 c1 HA HB HG HCK M1 hb2 hlt
  have HS:=xo (iB _ b w2 HB2.out ob1 (by omega) HG2.out.g)
  have HC:=xo hck
  clear hck oac obc ohd ob1 ob7 oa1 oa7
  go_wp2_with fail
  refine HS.out.mono ?_
  rintro e w3 ⟨rfl,hb3⟩
  go_wp2
  refine bodyPost_ret (v:=.tuple #[.bool (aU b).isSome,.int .i64 0]) (by simp[results,Tryz.results12,go_sem]) rfl ⟨by unfold av;rw[HC.out];rfl,M2.out.trans (hb3.mono M2.out.size)⟩
 ·have HC:=xo (show au a b=false by simpa using hck)
  have hce:av a b=30:=by unfold av;rw[if_neg hck]
  rw[hce] at HCK
  clear hce
  go_wp2_with fail
  refine HCK.out.mono ?_
  rintro e w2 ⟨rfl,hb2⟩
  go_wp2
  refine bodyPost_ret (v:=.tuple #[.bool false,.int .i64 30]) (by simp[results,Tryz.results12,go_sem]) rfl ⟨by unfold av;rw[HC.out];rfl,M1.out.trans (hb2.mono M1.out.size)⟩
def vL (a b:List ByteArray) (w:World) (e:Ending) (w':World):Prop :=
 ∃ v err,e=.returned (.tuple #[v,.int .i64 err])∧((∃ pf,au a b=true∧aU b=some pf∧err=0∧IsS w' v pf∧pf.length=b.length-1)∨(au a b=true∧aU b=none∧err=31∧v=.slice none 0 0)∨(au a b=false∧err=30∧v=.slice none 0 0))∧Below w.heap.size w w'
theorem nL (v:Value) (a b:List ByteArray) (w:World) (hF:IsF w v a b) (hG:Gx w) :
  Calls Tryz.prog 24 #[v] w (vL a b w):=by
 obtain⟨p,c,q,d,rfl,hfa,hfb⟩:=id hF.ex
 go_enter Tryz.func24,Tryz.ntmps24
 go_upto_region 1 with fail
 have cc:=ar w (.slice p a.length c) (.slice q b.length d)
 have m1:=ac w (.cells #[.slice p a.length c,.slice q b.length d] 24)
 have zz:=size_alloc w (.cells #[.slice p a.length c,.slice q b.length d] 24)
 generalize w.alloc (.cells #[.slice p a.length c,.slice q b.length d] 24)=w1 at *
 have HCK:=xo (cJ _ a b w1 (hF.below m1) (hG.below m1))
 have HA:=xo (hfa.below m1)
 have HB:=xo (hfb.below m1)
 have HG:=xo (hG.below m1)
 have c0:=cc.1
 have c1:=cc.2
 have hlt:w.heap.size<w1.heap.size:=by omega
 have M1:=xo m1
 clear hfa hfb cc zz m1 hF hG
 by_cases hck:au a b=true
 ·have hce:av a b=0:=by unfold av;rw[if_pos hck]
  rw[hce] at HCK
  obtain⟨ob1,ob7,oa1,oa7,oac,obc,ohd⟩:=aB hck
  clear hce
  go_wp2_with fail
  refine HCK.out.mono ?_
  rintro e w2 ⟨rfl,hb2⟩
  have d0:=aa hb2 hlt c0
  have d1:=aa hb2 hlt c1
  have HA2:=xo (HA.out.below hb2)
  have HB2:=xo (HB.out.below hb2)
  have HG2:=xo (HG.out.below hb2)
  have M2:=xo (M1.out.trans (hb2.mono M1.out.size))
  have hlt2:w.heap.size<w2.heap.size:=xB hlt hb2.size
  clear c0 c1 HA HB HG HCK M1 hb2 hlt
  have HS:=xo (tn _ b w2 HB2.out ob1 (by omega) HG2.out.g)
  have HC:=xo hck
  clear hck oac obc ohd ob1 ob7 oa1 oa7
  go_wp2_with fail
  refine HS.out.mono ?_
  rintro e w3 ⟨v3,ok,rfl,hcase,hb3⟩
  rcases hcase with ⟨pf,hq,rfl,hp,hpl⟩ | ⟨hq,rfl,rfl⟩
  ·have HQ:=xo hq
   have HPL:=xo hpl
   obtain⟨p1,c1',rfl,-⟩:=id hp.form
   clear hq hpl
   go_wp2
   refine bodyPost_ret (v:=.tuple #[.slice p1 pf.length c1',.int .i64 0]) (by simp[results,Tryz.results24,go_sem]) rfl ⟨_,_,rfl,Or.inl ⟨pf,HC.out,HQ.out,rfl,hp,HPL.out⟩,M2.out.trans (hb3.mono M2.out.size)⟩
  ·have HQ:=xo hq
   clear hq
   go_wp2
   refine bodyPost_ret (v:=.tuple #[.slice none 0 0,.int .i64 31]) (by simp[results,Tryz.results24,go_sem]) rfl ⟨_,_,rfl,Or.inr (Or.inl ⟨HC.out,HQ.out,rfl,rfl⟩),M2.out.trans (hb3.mono M2.out.size)⟩
 ·have HC:=xo (show au a b=false by simpa using hck)
  have hce:av a b=30:=by unfold av;rw[if_neg hck]
  rw[hce] at HCK
  clear hce
  go_wp2_with fail
  refine HCK.out.mono ?_
  rintro e w2 ⟨rfl,hb2⟩
  go_wp2
  refine bodyPost_ret (v:=.tuple #[.slice none 0 0,.int .i64 30]) (by simp[results,Tryz.results24,go_sem]) rfl ⟨_,_,rfl,Or.inr (Or.inr ⟨HC.out,rfl,rfl⟩),M1.out.trans (hb2.mono M1.out.size)⟩
def pO (r:ByteArray):Bool:=bt r.data.toList&&!decide (gH r ⟨#[48]⟩≤0)&&!decide (1≤gH r ⟨#[49]⟩)
def cj (a b:List ByteArray) (r:ByteArray):Bool×Int:=if au a b=true then (if pO r=true then (bY b r,0) else (false,8)) else (false,30)
theorem ur (v:Value) (a b:List ByteArray) (r:ByteArray) (w:World) (hF:IsF w v a b) (hG:Gx w) :
  Calls Tryz.prog 15 #[v,.string r] w fun e w'=>e=.returned (.tuple #[.bool (cj a b r).1,.int .i64 (cj a b r).2])∧Below w.heap.size w w':=by
 obtain⟨p,c,q,d,rfl,hfa,hfb⟩:=id hF.ex
 go_enter Tryz.func15,Tryz.ntmps15
 go_upto_region 1 with fail
 have cc:=ar w (.slice p a.length c) (.slice q b.length d)
 have m1:=ac w (.cells #[.slice p a.length c,.slice q b.length d] 24)
 have zz:=size_alloc w (.cells #[.slice p a.length c,.slice q b.length d] 24)
 generalize w.alloc (.cells #[.slice p a.length c,.slice q b.length d] 24)=w1 at *
 have HCK:=xo (cJ _ a b w1 (hF.below m1) (hG.below m1))
 have HA:=xo (hfa.below m1)
 have HB:=xo (hfb.below m1)
 have HG:=xo (hG.below m1)
 have c0:=cc.1
 have c1:=cc.2
 have hlt:w.heap.size<w1.heap.size:=by omega
 have M1:=xo m1
 clear hfa hfb cc zz m1 hF hG
 by_cases hck:au a b=true
 ·have hce:av a b=0:=by unfold av;rw[if_pos hck]
  rw[hce] at HCK
  obtain⟨ob1,ob7,oa1,oa7,oac,obc,ohd⟩:=aB hck
  clear hce
  go_wp2_with fail
  refine HCK.out.mono ?_
  rintro e w2 ⟨rfl,hb2⟩
  have d0:=aa hb2 hlt c0
  have d1:=aa hb2 hlt c1
  have HA2:=xo (HA.out.below hb2)
  have HB2:=xo (HB.out.below hb2)
  have HG2:=xo (HG.out.below hb2)
  have M2:=xo (M1.out.trans (hb2.mono M1.out.size))
  have hlt2:w.heap.size<w2.heap.size:=xB hlt hb2.size
  clear c0 c1 HA HB HG HCK M1 hb2 hlt
  have HC:=xo hck
  have HW:=xo (fun wx (h:Below w2.heap.size w2 wx)=>pY _ b r wx (HB2.out.below h) ob1 (by omega) (HG2.out.below h).g)
  have HO:=xo (jK r w2 HG2.out)
  have H0:=xo (fun wx (h:Below w2.heap.size w2 wx)=>gr r ⟨#[48]⟩ wx (HG2.out.below h).g)
  have H1:=xo (fun wx (h:Below w2.heap.size w2 wx)=>gr r ⟨#[49]⟩ wx (HG2.out.below h).g)
  clear hck oac obc ohd ob1 ob7 oa1 oa7
  go_wp2_with fail
  refine HO.out.mono ?_
  rintro e w3 ⟨bb,rfl,hbb,hb3⟩
  cases bb with
  | false =>
   have hwc:cj a b r=(false,8):=by unfold cj pO;rw[HC.out,hbb.out];rfl
   have HWC:=xo hwc
   clear hwc hbb
   go_wp2
   refine bodyPost_ret (v:=.tuple #[.bool false,.int .i64 8]) (by simp[results,Tryz.results15,go_sem]) rfl ⟨by rw[HWC.out],M2.out.trans (hb3.mono M2.out.size)⟩
  | true =>
   obtain⟨x,hx⟩:∃ x,x=gH r ⟨#[48]⟩:=⟨_,rfl⟩
   obtain⟨y,hy⟩:∃ y,y=gH r ⟨#[49]⟩:=⟨_,rfl⟩
   have hrad:pO r=(!decide (x≤0)&&!decide (1≤y)):=by unfold pO;rw[hbb.out,←hx,←hy];rfl
   rw[←hx] at H0
   rw[←hy] at H1
   have HR:=xo hrad
   clear hrad hx hy hbb HO
   have H0:=xo (H0.out w3 hb3)
   by_cases h0:x≤0
   ·have hd:decide (x≤0)=true:=decide_eq_true h0
    have hwc:cj a b r=(false,8):=by unfold cj;rw[HC.out,HR.out,hd];rfl
    have HWC:=xo hwc
    clear hwc
    go_wp2_with fail
    refine H0.out.mono ?_
    rintro e w4 ⟨rfl,hb4⟩
    go_wp2
    refine bodyPost_ret (v:=.tuple #[.bool false,.int .i64 8]) (by simp[results,Tryz.results15,go_sem]) rfl ⟨by rw[HWC.out],M2.out.trans ((hb3.trans (hb4.mono hb3.size)).mono M2.out.size)⟩
   ·have hd:decide (x≤0)=false:=decide_eq_false h0
    go_wp2_with fail
    refine H0.out.mono ?_
    rintro e w4 ⟨rfl,hb4⟩
    have hB4:=hb3.trans (hb4.mono hb3.size)
    go_wp2_with fail
    refine (H1.out w4 hB4).mono ?_
    rintro e w5 ⟨rfl,hb5⟩
    have hB5:=hB4.trans (hb5.mono hB4.size)
    by_cases h1:0<y
    ·have hd1:decide (0<y)=true:=decide_eq_true h1
     have hd2:decide (1≤y)=true:=decide_eq_true (by omega)
     have hwc:cj a b r=(false,8):=by unfold cj;rw[HC.out,HR.out,hd,hd2];rfl
     have HWC:=xo hwc
     clear hwc
     go_wp2
     refine bodyPost_ret (v:=.tuple #[.bool false,.int .i64 8]) (by simp[results,Tryz.results15,go_sem]) rfl ⟨by rw[HWC.out],M2.out.trans (hB5.mono M2.out.size)⟩
    ·have hd1:decide (0<y)=false:=decide_eq_false h1
     have hd2:decide (1≤y)=false:=decide_eq_false (by omega)
     have hwc:cj a b r=(bY b r,0):=by unfold cj;rw[HC.out,HR.out,hd,hd2];rfl
     have HWC:=xo hwc
     have d1':=aa hB5 hlt2 d1
     have HW5:=xo (HW.out w5 hB5)
     clear hwc hd2 d0 d1
     go_wp2_with fail
     refine HW5.out.mono ?_
     rintro e w6 ⟨rfl,hb6⟩
     go_wp2
     refine bodyPost_ret (v:=.tuple #[.bool (bY b r),.int .i64 0]) (by simp[results,Tryz.results15,go_sem]) rfl ⟨by rw[HWC.out],M2.out.trans ((hB5.trans (hb6.mono hB5.size)).mono M2.out.size)⟩
 ·have HC:=xo (show au a b=false by simpa using hck)
  have hwc:cj a b r=(false,30):=by unfold cj;rw[HC.out];rfl
  have HW:=xo hwc
  clear hwc
  have hce:av a b=30:=by unfold av;rw[if_neg hck]
  rw[hce] at HCK
  clear hce
  go_wp2_with fail
  refine HCK.out.mono ?_
  rintro e w2 ⟨rfl,hb2⟩
  go_wp2
  refine bodyPost_ret (v:=.tuple #[.bool false,.int .i64 30]) (by simp[results,Tryz.results15,go_sem]) rfl ⟨by rw[HW.out],M1.out.trans (hb2.mono M1.out.size)⟩
open Go.RowKit Dg Dc
def tq (q:Rat):ByteArray:=txt (CQ.real q)
def okQ (q:Rat):Prop:=dV (CQ.real q)=false
theorem uP (q:Rat):okQ q↔cw (rt q)=false:=by
 unfold okQ dV CQ.real
 have h0:cw (rt 0)=false:=by rw[iz];exact gD
 rw[h0,Bool.or_false]
theorem wB {q:Rat} (h1:q.num.natAbs<10 ^ 2000) (h2:q.den<10 ^ 2000):okQ q:=by
 rw[uP]
 unfold cw rt
 have h3:=bI (k:=2000) (by decide) h1
 have h4:=bI (k:=2000) (by decide) h2
 simp only[yV,decide_eq_false_iff_not]
 omega
theorem lI {q:Rat} (h:okQ q):el (tq q)=some (CQ.real q):=qF h
theorem oz {q:Rat} (h:okQ q):ci (CQ.real q)=(tq q,0):=by unfold ci;rw[if_neg (by rw[show dV (CQ.real q)=false from h];decide)];rfl
theorem tB (a b:Rat):(CQ.real a).mul (CQ.real b)=CQ.real (a*b):=by unfold CQ.real CQ.mul;congr 1<;>grind
theorem tz (a b:Rat) (h:b≠0):(CQ.real a).div (CQ.real b)=CQ.real (a / b):=by unfold CQ.real CQ.div CQ.norm;congr 1<;>grind
theorem uL {a b:Rat} (ha:okQ a) (hb:okQ b) (h:okQ (a*b)):bX (tq a) (tq b)=tq (a*b):=by
 unfold bX bL ew
 rw[lI ha,lI hb]
 simp only[if_true]
 rw[tB,oz h]
theorem uC {a b:Rat} (ha:okQ a) (hb:okQ b) (hne:b≠0) (h:okQ (a / b)):bJ (tq a) (tq b)=tq (a / b):=by
 unfold bJ bL mD
 rw[lI ha,lI hb]
 have hn:CQ.real b≠⟨0,0⟩:=fun e=>hne (congrArg CQ.re e)
 simp only[if_neg hn,if_true]
 rw[tz a b hne,oz h]
theorem oN:tq 1=⟨#[49]⟩:=by
 unfold tq txt
 have e:de (ct (CQ.real 1))=[49]:=by
  rw[cO (z:=ct (CQ.real 1)) (by show (rt 0).n=0;rw[iz])]
  show a7 ⟨false,1,1⟩=_
  unfold a7
  rw[d7 (show 1<10 by decide)];rfl
 rw[e]
theorem wC (k:Nat) (h:k≠0):1<10 ^ k:=Nat.one_lt_pow h (by decide)
theorem pV:(1:Nat)<10 ^ 2000:=wC 2000 (by decide)
theorem iu:okQ 1:=wB pV pV
theorem uS {s:ByteArray} (h:eU s.data.toList=true):∃ q,s=tq q∧okQ q:=by
 unfold eU at h
 cases hg:eB s.data.toList with
 | none=>rw[hg] at h;cases h
 | some z =>
  rw[hg] at h
  obtain⟨q,rfl,-,-,h3,h4⟩:=fg hg
  have him:q.im=0:=(aW _).1 (of_decide_eq_true h)
  have e:q=CQ.real q.re:=by cases q;simp only at him;subst him;rfl
  rw[e] at h3 h4
  exact⟨q.re,h4.symm,h3⟩
theorem uy {s:ByteArray} (h:bt s.data.toList=true):∃ q,s=tq q∧okQ q:=by
 unfold bt at h
 simp only[xN] at h
 exact uS h.1
theorem sn {s:ByteArray} (h:bt s.data.toList=true):bJ s ⟨#[49]⟩=s:=by
 obtain⟨q,rfl,hq⟩:=uy h
 have e:q / 1=q:=by grind
 rw[←oN,uC hq iu (by decide) (by rw[e];exact hq),e]
theorem sV:bX ⟨#[49]⟩ ⟨#[49]⟩=⟨#[49]⟩:=by
 have e:(1:Rat)*1=1:=by grind
 rw[←oN,uL iu iu (by rw[e];exact iu),e]
def ofT (n:Nat):ByteArray:=(ci (CQ.real (mkRat n 64))).1
theorem uN:ofT 64=⟨#[49]⟩:=by
 have e:mkRat ((64:Nat):Int) 64=1:=by decide +kernel
 unfold ofT
 rw[e,oz iu,oN]
theorem kh:∀ i,iU ⟨#[49]⟩ i=⟨#[49]⟩
 | 0=>rfl
 | i+1=>by unfold iU;rw[kh i,sV]
theorem nG {b:List ByteArray} (h:∀ s∈b,bt s.data.toList=true):bP b ⟨#[49]⟩=b:=by
 refine List.ext_getElem (by simp[bP]) fun i h1 h2=>?_
 simp only[bP,yG,List.getElem_range,kh]
 rw[←gz h2,sn (h _ (xK h2))]
def uo (a b:List ByteArray) (w:World) (e:Ending) (w':World):Prop :=
  ∃ n err,e=.returned (.tuple #[.int .i64 n,.int .i64 err]) ∧
    ((au a b=true∧(aU b).isSome=true∧err=0∧∃ k:Nat,n=k∧1≤k∧k≤64∧bY b (ofT k)=true∧∀ m,1≤m→m<k→bY b (ofT m)=false) ∨
     (au a b=true∧(aU b).isSome=false∧err=31∧n=0)∨(au a b=false∧err=30∧n=0))∧Below w.heap.size w w'
theorem oT (v:Value) (a b:List ByteArray) (w:World) (hF:IsF w v a b) (hG:Gx w) :
  Calls Tryz.prog 11 #[v] w (uo a b w):=by
 obtain⟨p,c,q,d,rfl,hfa,hfb⟩:=id hF.ex
 go_enter Tryz.func11,Tryz.ntmps11
 go_upto_region 1 with fail
 have cc:=ar w (.slice p a.length c) (.slice q b.length d)
 have m1:=ac w (.cells #[.slice p a.length c,.slice q b.length d] 24)
 have zz:=size_alloc w (.cells #[.slice p a.length c,.slice q b.length d] 24)
 generalize w.alloc (.cells #[.slice p a.length c,.slice q b.length d] 24)=w1 at *
 have HCK:=xo (cJ _ a b w1 (hF.below m1) (hG.below m1))
 have HA:=xo (hfa.below m1)
 have HB:=xo (hfb.below m1)
 have HG:=xo (hG.below m1)
 have c0:=cc.1
 have c1:=cc.2
 have hlt:w.heap.size<w1.heap.size:=by omega
 have M1:=xo m1
 clear hfa hfb cc zz m1 hF hG
 by_cases hck:au a b=true
 ·have hce:av a b=0:=by unfold av;rw[if_pos hck]
  rw[hce] at HCK
  obtain⟨ob1,ob7,oa1,oa7,oac,obc,ohd⟩:=aB hck
  clear hce
  go_wp2_with fail
  refine HCK.out.mono ?_
  rintro e w2 ⟨rfl,hb2⟩
  have d0:=aa hb2 hlt c0
  have d1:=aa hb2 hlt c1
  have HA2:=xo (HA.out.below hb2)
  have HB2:=xo (HB.out.below hb2)
  have HG2:=xo (HG.out.below hb2)
  have M2:=xo (M1.out.trans (hb2.mono M1.out.size))
  have hlt2:w.heap.size<w2.heap.size:=xB hlt hb2.size
  clear c0 c1 HA HB HG HCK M1 hb2 hlt
  have HS:=xo (iB _ b w2 HB2.out ob1 (by omega) HG2.out.g)
  have HC:=xo hck
  have HOC:=xo obc
  have HOB:=xo (And.intro ob1 ob7)
  clear hck oac obc ohd ob1 ob7 oa1 oa7
  by_cases hst:(aU b).isSome=true
  ·rw[hst] at HS
   have HST:=xo hst
   have HW1:=xo (show bY b (ofT 64)=true by unfold bY;rw[uN,nG HOC.out];exact hst)
   clear hst
   go_wp2_with fail
   refine HS.out.mono ?_
   rintro e w3 ⟨rfl,hb3⟩
   go_wp2
   go_loopw [5] (fun s5 wr=>∃ n:Nat,s5=.int .i64 n∧1≤n∧n≤64∧Hid (∀ m,1≤m→m<n→bY b (ofT m)=false)∧Below w2.heap.size w2 wr) (fun s5 _=>64-(intOf s5).toNat)
   case atStart=>exact⟨1,rfl,xy _,by decide,fun m h1 h2=>by omega,hb3⟩
   case round =>
    clear hb3
    obtain⟨n,rfl,hn1,hn2,hall,hbr⟩:=hrel
    go_wp2_with fail
    have hof:=xe (n:Int) 64 wr (by omega) (by omega) (by decide) (by decide) (HG2.out.below hbr).g
    refine hof.mono ?_
    clear hof
    rintro e w4 ⟨rfl,hb4⟩
    have hB4:=hbr.trans (hb4.mono hbr.size)
    have d1':=aa hB4 hlt2 d1
    obtain⟨rr,hrr⟩:∃ r,r=ofT n:=⟨_,rfl⟩
    rw[show (ci (CQ.real (mkRat (n:Int) 64))).1=rr from hrr.symm]
    obtain⟨ww,hww⟩:∃ x,x=bY b rr:=⟨_,rfl⟩
    have hwi:=pY _ b rr w4 (HB2.out.below hB4) HOB.out.1 (by have:=HOB.out.2;omega) (HG2.out.below hB4).g
    rw[←hww] at hwi
    have HWI:=xo hwi
    have hwn:bY b (ofT n)=ww:=by rw[hww,hrr]
    have HWN:=xo hwn
    clear hwi hww hrr hb4 hbr hwn
    go_wp2_with fail
    refine HWI.out.mono ?_
    rintro e w5 ⟨rfl,hb5⟩
    have hB5:=hB4.trans (hb5.mono hB4.size)
    cases ww with
    | true =>
     clear hb5
     go_wp2
     refine bodyPost_ret (v:=.tuple #[.int .i64 n,.int .i64 0]) (by simp[results,Tryz.results11,go_sem]) rfl ⟨_,_,rfl,Or.inl ⟨HC.out,HST.out,rfl,n,rfl,hn1,hn2,HWN.out,hall.out⟩,M2.out.trans (hB5.mono M2.out.size)⟩
    | false =>
     have hlt:n<64:=by
      rcases yr n 64 with h | h
      ·exact h
      ·have h64:n=64:=by omega
       have h1:=HWN.out
       rw[h64,HW1.out] at h1
       cases h1
     have hall2:Hid (∀ m,1≤m→m<n+1→bY b (ofT m)=false):=fun m h1 h2=>by
      by_cases hm:m=n
      ·subst hm;exact HWN.out
      ·exact hall.out m h1 (by omega)
     clear hall hb5
     go_wp2
     go_roundw
     case rel=>exact⟨n+1,by go_num,by omega,by omega,hall2,hB5⟩
     case measure=>(first | (simp[intOf];done) | (simp[intOf];omega))
  ·have hst':(aU b).isSome=false:=by simpa using hst
   rw[hst'] at HS
   have HST:=xo hst'
   clear hst hst'
   go_wp2_with fail
   refine HS.out.mono ?_
   rintro e w3 ⟨rfl,hb3⟩
   go_wp2
   refine bodyPost_ret (v:=.tuple #[.int .i64 0,.int .i64 31]) (by simp[results,Tryz.results11,go_sem]) rfl ⟨_,_,rfl,Or.inr (Or.inl ⟨HC.out,HST.out,rfl,rfl⟩),M2.out.trans (hb3.mono M2.out.size)⟩
 ·have HC:=xo (show au a b=false by simpa using hck)
  have hce:av a b=30:=by unfold av;rw[if_neg hck]
  rw[hce] at HCK
  clear hce
  go_wp2_with fail
  refine HCK.out.mono ?_
  rintro e w2 ⟨rfl,hb2⟩
  go_wp2
  refine bodyPost_ret (v:=.tuple #[.int .i64 0,.int .i64 30]) (by simp[results,Tryz.results11,go_sem]) rfl ⟨_,_,rfl,Or.inr (Or.inr ⟨HC.out,rfl,rfl⟩),M1.out.trans (hb2.mono M1.out.size)⟩
end Go.Proofs.YtomkanblohhpfaaGreatDoor
