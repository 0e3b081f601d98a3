/- Lemmas of this claim. -/
import Derived.Test.YtdlioncecgnloaaGreatDoorYCoef
import Derived.Test.YtdlioncecgnloaaGreatDoorYNC7
import Derived.Test.YtdlioncecgnloaaGreatDoorYNC8
set_option linter.all false
set_option maxRecDepth 100000
set_option maxHeartbeats 8000000
namespace Go.Proofs.YtdlioncecgnloaaGreatDoor
open Go.RowKit Dg
theorem iR (v:Value) (l:List ByteArray) (w:World) (hl:IsS w v l) (hpos:0<l.length) (hlen:l.length<1000000) (hG:Gw w) :
  Calls Tryz.prog 66 #[v] w fun e w'=>e=.returned (.bool (aQ l).isSome)∧Below w.heap.size w w':=by
 have HP:=zf (qu9 v l w hl hpos hlen hG)
 obtain⟨p,c,rfl,-⟩:=hl.form
 go_enter Tryz.func66,Tryz.ntmps66
 go_wp2_with fail
 refine HP.out.mono ?_
 rintro e w1 ⟨v1,ok,rfl,hcase,hb1⟩
 rcases hcase with ⟨pf,hq,rfl,hp,-⟩ | ⟨hq,rfl,rfl⟩
 ·have HQ:=zf hq
  obtain⟨p1,c1,rfl,-⟩:=hp.form
  clear hq hp
  go_wp2
  go_ret
  exact⟨by rw[HQ.out];rfl,hb1⟩
 ·have HQ:=zf hq
  clear hq
  go_wp2
  go_ret
  exact⟨by rw[HQ.out];rfl,hb1⟩
structure IsF (w:World) (v:Value) (a b:List ByteArray):Prop where
 ex:∃ p c q d,v=.agg #[.slice p a.length c,.slice q b.length d]∧IsS w (.slice p a.length c) a∧IsS w (.slice q b.length d) b
theorem IsF.below {w w':World}{v:Value}{a b:List ByteArray} (h:IsF w v a b) (hb:Below w.heap.size w w'):IsF w' v a b:=by
 obtain⟨p,c,q,d,e,h1,h2⟩:=h.ex
 exact⟨p,c,q,d,e,h1.below hb,h2.below hb⟩
theorem IsS.words {w:World}{p:Option Addr}{n c:Nat}{l:List ByteArray} (h:IsS w (.slice p n c) l):dU w p l:=by
 refine⟨fun hl=>?_⟩
 obtain⟨b,o,rfl,hlt,-⟩:=h.get hl
 refine⟨b,o,rfl,hlt,fun i hi=>?_⟩
 obtain⟨b',o',e,-,hc⟩:=h.get hi
 obtain⟨rfl,rfl⟩:b=b'∧o=o':=by simpa using e
 exact hc
def av (a b:List ByteArray):Int:=if au a b=true then 0 else 30
theorem dD (v:Value) (a b:List ByteArray) (w:World) (h:IsF w v a b) (hG:Gx w) :
  Calls Tryz.prog 14 #[v] w fun e w'=>e=.returned (.int .i64 (av a b))∧Below w.heap.size w w':=by
 obtain⟨p,c,q,d,rfl,h1,h2⟩:=h.ex
 refine (yf p q c d a b w h1.words h2.words hG).mono ?_
 rintro e w' ⟨n,rfl,hn,hb⟩
 refine⟨?_,hb⟩
 rcases hn with ⟨rfl,hc⟩ | ⟨rfl,hc⟩
 ·unfold av;rw[hc.out];rfl
 ·unfold av;rw[hc.out];rfl
theorem aG {a b:List ByteArray} (h:au a b=true):1≤b.length∧b.length≤7∧1≤a.length∧a.length≤7∧(∀ s∈a,bA s.data.toList=true)∧(∀ s∈b,bA s.data.toList=true)∧n6 b=some [49]:=by
 unfold au eH at h
 simp only[zL,decide_eq_true_eq,zS] at h
 exact⟨h.1.2.1.1,h.1.2.1.2,h.1.1.1.1,h.1.1.1.2,h.1.1.2,h.1.2.2,h.2⟩
theorem ar (w:World) (x y:Value):(w.alloc (.cells #[x,y] 28)).cell? ⟨w.heap.size,0,none⟩=some x∧(w.alloc (.cells #[x,y] 28)).cell? ⟨w.heap.size,1,none⟩=some y :=
 ⟨aq w _ _ 0 _ rfl,aq w _ _ 1 _ rfl⟩
def jl (r:ByteArray):Nat→ByteArray
 | 0=>⟨#[49]⟩
 | i+1=>ck (jl r i) r
def bW (out:List ByteArray) (r:ByteArray):List ByteArray:=(List.range out.length).map fun i=>bL (ap out i) (jl r i)
theorem nl (out:List ByteArray) (r:ByteArray) {i:Nat} (h:i<out.length):(bW out r).take (i+1)=(bW out r).take i++[bL (ap out i) (jl r i)]:=by
 have hl:i<(bW out r).length:=by simp[bW,h]
 rw[show (bW out r).take (i+1)=(bW out r).take i++[(bW out r)[i]] from (zB hl).symm]
 simp[bW]
def dB (out:List ByteArray) (r:ByteArray):Bool:=(aQ (bW out r)).isSome
theorem xD (v:Value) (l:List ByteArray) (r:ByteArray) (w:World) (hl:IsS w v l) (hpos:0<l.length) (hlen:l.length<1000000) (hG:Gw w) :
  Calls Tryz.prog 88 #[v,.string r] w fun e w'=>e=.returned (.bool (dB l r))∧Below w.heap.size w w':=by
 obtain⟨p,c,rfl,-⟩:=id hl.form
 have HL:=zf hl
 have HG:=zf hG
 clear hl hG
 go_enter Tryz.func88,Tryz.ntmps88
 go_wp2
 go_loopw [5,6,11] (fun s5 s6 s11 wr=>∃ i:Nat,s5=.string (jl r i)∧s11=.int .i64 i∧i≤l.length∧bf wr w.heap.size s6 ((bW l r).take i)∧Below w.heap.size w wr) (fun _ _ s11 _=>l.length-(intOf s11).toNat)
 case atStart=>exact⟨0,rfl,rfl,zD _,bf.nil _ _,Below.refl _ _⟩
 case round =>
  obtain⟨i,rfl,rfl,hin,hown,hbr⟩:=hrel
  by_cases hi:i<l.length
  ·obtain⟨b,o,rfl,hbl,hcell⟩:=(HL.out.below hbr).get hi
   rw[ee] at hcell
   have HT:=zf (nl l r hi)
   go_wp2_with fail
   refine (ed _ _ wr (HG.out.below hbr)).mono ?_
   rintro e w1 ⟨rfl,hb1⟩
   have hB1:=hbr.trans (hb1.mono hbr.size)
   have hw1:=hown.below hb1
   have hbs:=hB1.size
   have hzl:((bW l r).take i).length<1000000000:=by simp;omega
   clear hb1 hbr hown hcell
   go_wp2_with (at_builtin;refine aH 26 Tryz.underlying26 rfl (.tmp 15) (.tmp 19) rfl w.heap.size _ _ _ rfl hw1 rfl hzl hbs ?_)
   intro v' w2 hw2 hb2
   have hB2:=hb2 _ _ hB1 (zn _)
   rw[←HT.out] at hw2
   clear hw1 hb2 hB1
   go_wp2_with fail
   refine (dN _ _ w2 (HG.out.below hB2)).mono ?_
   rintro e w3 ⟨rfl,hb3⟩
   have hB3:=hB2.trans (hb3.mono hB2.size)
   have hw3:=hw2.below hb3
   clear hb3 hB2 hw2
   go_wp2
   go_roundw
   case rel=>exact⟨i+1,rfl,by go_num,by omega,hw3,hB3⟩
   case measure=>(first | (simp[intOf];done) | (simp[intOf];omega))
  ·have hin':i=l.length:=by omega
   subst hin'
   have hlw:(bW l r).length=l.length:=by simp[bW]
   rw[←hlw,zO] at hown
   have hs:=hown.isS
   have HS:=zf (iR _ _ wr hs (by omega) (by omega) (HG.out.below hbr))
   obtain⟨q,d,rfl,-⟩:=hs.form
   clear hown hs hi hlw
   go_wp2_with fail
   refine HS.out.mono ?_
   rintro e w1 ⟨rfl,hb1⟩
   go_wp2
   go_ret
   exact⟨rfl,hbr.trans (hb1.mono hbr.size)⟩
theorem ze (v:Value) (a b:List ByteArray) (w:World) (hF:IsF w v a b) (hG:Gx w) :
  Calls Tryz.prog 20 #[v] w fun e w'=>e=.returned (.tuple #[.bool (au a b&&(aQ b).isSome),.int .i64 (av a b)])∧Below w.heap.size w w':=by
 obtain⟨p,c,q,d,rfl,hfa,hfb⟩:=id hF.ex
 go_enter Tryz.func20,Tryz.ntmps20
 go_upto_region 1 with fail
 have cc:=ar w (.slice p a.length c) (.slice q b.length d)
 have m1:=ae w (.cells #[.slice p a.length c,.slice q b.length d] 28)
 have zz:=size_alloc w (.cells #[.slice p a.length c,.slice q b.length d] 28)
 generalize w.alloc (.cells #[.slice p a.length c,.slice q b.length d] 28)=w1 at *
 have HCK:=zf (dD _ a b w1 (hF.below m1) (hG.below m1))
 have HA:=zf (hfa.below m1)
 have HB:=zf (hfb.below m1)
 have HG:=zf (hG.below m1)
 have c0:=cc.1
 have c1:=cc.2
 have hlt:w.heap.size<w1.heap.size:=by omega
 have M1:=zf m1
 clear hfa hfb cc zz m1 hF hG
 by_cases hck:au a b=true
 ·have hce:av a b=0:=by unfold av;rw[if_pos hck]
  rw[hce] at HCK
  obtain⟨ob1,ob7,oa1,oa7,oac,obc,ohd⟩:=aG hck
  clear hce
  go_wp2_with fail
  refine HCK.out.mono ?_
  rintro e w2 ⟨rfl,hb2⟩
  have d0:=aa hb2 hlt c0
  have d1:=aa hb2 hlt c1
  have HA2:=zf (HA.out.below hb2)
  have HB2:=zf (HB.out.below hb2)
  have HG2:=zf (HG.out.below hb2)
  have M2:=zf (M1.out.trans (hb2.mono M1.out.size))
  have hlt2:w.heap.size<w2.heap.size:=zq hlt hb2.size
  clear c0 c1 HA HB HG HCK M1 hb2 hlt
  have HS:=zf (iR _ b w2 HB2.out ob1 (by omega) HG2.out.g)
  have HC:=zf hck
  clear hck oac obc ohd ob1 ob7 oa1 oa7
  go_wp2_with fail
  refine HS.out.mono ?_
  rintro e w3 ⟨rfl,hb3⟩
  go_wp2
  refine bodyPost_ret (v:=.tuple #[.bool (aQ b).isSome,.int .i64 0]) (by simp[results,Tryz.results20,go_sem]) rfl ⟨by unfold av;rw[HC.out];rfl,M2.out.trans (hb3.mono M2.out.size)⟩
 ·have HC:=zf (show au a b=false by simpa using hck)
  have hce:av a b=30:=by unfold av;rw[if_neg hck]
  rw[hce] at HCK
  clear hce
  go_wp2_with fail
  refine HCK.out.mono ?_
  rintro e w2 ⟨rfl,hb2⟩
  go_wp2
  refine bodyPost_ret (v:=.tuple #[.bool false,.int .i64 30]) (by simp[results,Tryz.results20,go_sem]) rfl ⟨by unfold av;rw[HC.out];rfl,M1.out.trans (hb2.mono M1.out.size)⟩
def xY (a b:List ByteArray) (w:World) (e:Ending) (w':World):Prop :=
 ∃ v err,e=.returned (.tuple #[v,.int .i64 err])∧((∃ pf,au a b=true∧aQ b=some pf∧err=0∧IsS w' v pf∧pf.length=b.length-1)∨(au a b=true∧aQ b=none∧err=31∧v=.slice none 0 0)∨(au a b=false∧err=30∧v=.slice none 0 0))∧Below w.heap.size w w'
theorem pC (v:Value) (a b:List ByteArray) (w:World) (hF:IsF w v a b) (hG:Gx w) :
  Calls Tryz.prog 22 #[v] w (xY a b w):=by
 obtain⟨p,c,q,d,rfl,hfa,hfb⟩:=id hF.ex
 go_enter Tryz.func22,Tryz.ntmps22
 go_upto_region 1 with fail
 have cc:=ar w (.slice p a.length c) (.slice q b.length d)
 have m1:=ae w (.cells #[.slice p a.length c,.slice q b.length d] 28)
 have zz:=size_alloc w (.cells #[.slice p a.length c,.slice q b.length d] 28)
 generalize w.alloc (.cells #[.slice p a.length c,.slice q b.length d] 28)=w1 at *
 have HCK:=zf (dD _ a b w1 (hF.below m1) (hG.below m1))
 have HA:=zf (hfa.below m1)
 have HB:=zf (hfb.below m1)
 have HG:=zf (hG.below m1)
 have c0:=cc.1
 have c1:=cc.2
 have hlt:w.heap.size<w1.heap.size:=by omega
 have M1:=zf m1
 clear hfa hfb cc zz m1 hF hG
 by_cases hck:au a b=true
 ·have hce:av a b=0:=by unfold av;rw[if_pos hck]
  rw[hce] at HCK
  obtain⟨ob1,ob7,oa1,oa7,oac,obc,ohd⟩:=aG hck
  clear hce
  go_wp2_with fail
  refine HCK.out.mono ?_
  rintro e w2 ⟨rfl,hb2⟩
  have d0:=aa hb2 hlt c0
  have d1:=aa hb2 hlt c1
  have HA2:=zf (HA.out.below hb2)
  have HB2:=zf (HB.out.below hb2)
  have HG2:=zf (HG.out.below hb2)
  have M2:=zf (M1.out.trans (hb2.mono M1.out.size))
  have hlt2:w.heap.size<w2.heap.size:=zq hlt hb2.size
  clear c0 c1 HA HB HG HCK M1 hb2 hlt
  have HS:=zf (qu9 _ b w2 HB2.out ob1 (by omega) HG2.out.g)
  have HC:=zf hck
  clear hck oac obc ohd ob1 ob7 oa1 oa7
  go_wp2_with fail
  refine HS.out.mono ?_
  rintro e w3 ⟨v3,ok,rfl,hcase,hb3⟩
  rcases hcase with ⟨pf,hq,rfl,hp,hpl⟩ | ⟨hq,rfl,rfl⟩
  ·have HQ:=zf hq
   have HPL:=zf hpl
   obtain⟨p1,c1',rfl,-⟩:=id hp.form
   clear hq hpl
   go_wp2
   refine bodyPost_ret (v:=.tuple #[.slice p1 pf.length c1',.int .i64 0]) (by simp[results,Tryz.results22,go_sem]) rfl ⟨_,_,rfl,Or.inl ⟨pf,HC.out,HQ.out,rfl,hp,HPL.out⟩,M2.out.trans (hb3.mono M2.out.size)⟩
  ·have HQ:=zf hq
   clear hq
   go_wp2
   refine bodyPost_ret (v:=.tuple #[.slice none 0 0,.int .i64 31]) (by simp[results,Tryz.results22,go_sem]) rfl ⟨_,_,rfl,Or.inr (Or.inl ⟨HC.out,HQ.out,rfl,rfl⟩),M2.out.trans (hb3.mono M2.out.size)⟩
 ·have HC:=zf (show au a b=false by simpa using hck)
  have hce:av a b=30:=by unfold av;rw[if_neg hck]
  rw[hce] at HCK
  clear hce
  go_wp2_with fail
  refine HCK.out.mono ?_
  rintro e w2 ⟨rfl,hb2⟩
  go_wp2
  refine bodyPost_ret (v:=.tuple #[.slice none 0 0,.int .i64 30]) (by simp[results,Tryz.results22,go_sem]) rfl ⟨_,_,rfl,Or.inr (Or.inr ⟨HC.out,rfl,rfl⟩),M1.out.trans (hb2.mono M1.out.size)⟩
open Go.RowKit Dg Dc
def tq (q:Rat):ByteArray:=txt (CQ.real q)
def okQ (q:Rat):Prop:=dl (CQ.real q)=false
theorem mU (q:Rat):okQ q↔cJ (rt q)=false:=by
 unfold okQ dl CQ.real
 have h0:cJ (rt 0)=false:=by rw[cZ];exact gR
 rw[h0,Bool.or_false]
theorem kE {q:Rat} (h1:q.num.natAbs<10 ^ 2000) (h2:q.den<10 ^ 2000):okQ q:=by
 rw[mU]
 unfold cJ rt
 have h3:=bP (k:=2000) (by decide) h1
 have h4:=bP (k:=2000) (by decide) h2
 simp only[AK,decide_eq_false_iff_not]
 omega
theorem cE {q:Rat} (h:okQ q):dE (tq q)=some (CQ.real q):=lI h
theorem ij {q:Rat} (h:okQ q):b9 (CQ.real q)=(tq q,0):=by unfold b9;rw[if_neg (by rw[show dl (CQ.real q)=false from h];decide)];rfl
theorem oO (a b:Rat):(CQ.real a).add (CQ.real b)=CQ.real (a+b):=by show (⟨a+b,0+0⟩:CQ)=⟨a+b,0⟩;rw[Rat.add_zero]
theorem vv (a b:Rat):(CQ.real a).sub (CQ.real b)=CQ.real (a-b):=by show (⟨a-b,0-0⟩:CQ)=⟨a-b,0⟩;rw[show (0:Rat)-0=0 by grind]
theorem kP (a b:Rat):(CQ.real a).mul (CQ.real b)=CQ.real (a*b):=by unfold CQ.real CQ.mul;congr 1<;>grind
theorem vo (a b:Rat) (h:b≠0):(CQ.real a).div (CQ.real b)=CQ.real (a / b):=by unfold CQ.real CQ.div CQ.norm;congr 1<;>grind
theorem wD {a b:Rat} (ha:okQ a) (hb:okQ b) (h:okQ (a+b)):fd (tq a) (tq b)=tq (a+b):=by
 unfold fd bn dA
 rw[cE ha,cE hb]
 simp only[if_true]
 rw[oO,ij h]
theorem rK {a b:Rat} (ha:okQ a) (hb:okQ b) (h:okQ (a-b)):eX (tq a) (tq b)=tq (a-b):=by
 unfold eX bn dA
 rw[cE ha,cE hb]
 simp only[if_true]
 rw[vv,ij h]
theorem j0 {a b:Rat} (ha:okQ a) (hb:okQ b) (h:okQ (a*b)):ck (tq a) (tq b)=tq (a*b):=by
 unfold ck bn dA
 rw[cE ha,cE hb]
 simp only[if_true]
 rw[kP,ij h]
theorem qQ {a b:Rat} (ha:okQ a) (hb:okQ b) (hne:b≠0) (h:okQ (a / b)):bL (tq a) (tq b)=tq (a / b):=by
 unfold bL bn nR
 rw[cE ha,cE hb]
 have hn:CQ.real b≠⟨0,0⟩:=fun e=>hne (congrArg CQ.re e)
 simp only[if_neg hn,if_true]
 rw[vo a b hne,ij h]
theorem qO {a b:Rat} (ha:okQ a) (hb:okQ b):iA (tq a) (tq b)=fX a b:=by
 unfold iA jN dy
 simp only[cO,cE ha,cE hb,eV]
 simp[CQ.real]
theorem eY:tq 1=⟨#[49]⟩:=by
 unfold tq txt
 have e:bS (ct (CQ.real 1))=[49]:=by
  rw[bE (z:=ct (CQ.real 1)) (by show (rt 0).n=0;rw[cZ])]
  show aF ⟨false,1,1⟩=_
  unfold aF
  rw[da (show 1<10 by decide)];rfl
 rw[e]
theorem j7:tq 0=⟨#[48]⟩:=by
 unfold tq txt
 have e:bS (ct (CQ.real 0))=[48]:=by
  rw[bE (z:=ct (CQ.real 0)) (by show (rt 0).n=0;rw[cZ])]
  show aF (rt 0)=_
  rw[cZ]
  unfold aF
  rw[da (show 0<10 by decide)];rfl
 rw[e]
theorem kY:tq (-1)=⟨#[45,49]⟩:=by
 unfold tq txt
 have e:bS (ct (CQ.real (-1)))=[45,49]:=by
  rw[bE (z:=ct (CQ.real (-1))) (by show (rt 0).n=0;rw[cZ])]
  show aF ⟨true,1,1⟩=_
  unfold aF
  rw[da (show 1<10 by decide)];rfl
 rw[e]
theorem yI (k:Nat) (h:k≠0):1<10 ^ k:=Nat.one_lt_pow h (by decide)
theorem fQ:(1:Nat)<10 ^ 2000:=yI 2000 (by decide)
theorem dP:okQ 1:=kE fQ fQ
theorem oE:okQ 0:=kE (Nat.lt_trans Nat.zero_lt_one fQ) fQ
theorem jy:okQ (-1):=kE fQ fQ
theorem kv {k:Rat} (h:okQ k):dt (tq k)=(decide (-1<k)&&decide (k<1)):=by
 unfold dt
 rw[←kY,←eY,qO h jy,qO h dP]
 unfold fX
 by_cases h1:k=-1
 ·subst h1;decide
 ·by_cases h2:k < -1
  ·have h3:¬ (-1<k):=by grind
   simp[h1,h2,h3]
  ·have h3:-1<k:=by grind
   by_cases h4:k=1
   ·subst h4;simp[h1,h2]
   ·by_cases h5:k<1
    ·simp[h1,h2,h3,h4,h5]
    ·simp[h1,h2,h3,h4,h5]
theorem xh {s:ByteArray} (h:eI s.data.toList=true):∃ q,s=tq q∧okQ q:=by
 unfold eI at h
 cases hg:ec s.data.toList with
 | none=>rw[hg] at h;cases h
 | some z =>
  rw[hg] at h
  obtain⟨q,rfl,-,-,h3,h4⟩:=eS hg
  have him:q.im=0:=(aM _).1 (of_decide_eq_true h)
  have e:q=CQ.real q.re:=by cases q;simp only at him;subst him;rfl
  rw[e] at h3 h4
  exact⟨q.re,h4.symm,h3⟩
theorem qP {s:ByteArray} (h:bA s.data.toList=true):∃ q,s=tq q∧okQ q:=by
 unfold bA at h
 simp only[zL] at h
 exact xh h.1
theorem ua {s:ByteArray} (h:bA s.data.toList=true):bL s ⟨#[49]⟩=s:=by
 obtain⟨q,rfl,hq⟩:=qP h
 have e:q / 1=q:=by grind
 rw[←eY,qQ hq dP (by decide) (by rw[e];exact hq),e]
theorem uL:ck ⟨#[49]⟩ ⟨#[49]⟩=⟨#[49]⟩:=by
 have e:(1:Rat)*1=1:=by grind
 rw[←eY,j0 dP dP (by rw[e];exact dP),e]
def ofT (n:Nat):ByteArray:=(b9 (CQ.real (mkRat n 64))).1
theorem wZ:ofT 64=⟨#[49]⟩:=by
 have e:mkRat ((64:Nat):Int) 64=1:=by decide +kernel
 unfold ofT
 rw[e,ij dP,eY]
theorem kQ:∀ i,jl ⟨#[49]⟩ i=⟨#[49]⟩
 | 0=>rfl
 | i+1=>by unfold jl;rw[kQ i,uL]
theorem pt {b:List ByteArray} (h:∀ s∈b,bA s.data.toList=true):bW b ⟨#[49]⟩=b:=by
 refine List.ext_getElem (by simp[bW]) fun i h1 h2=>?_
 simp only[bW,AE,List.getElem_range,kQ]
 rw[←ee h2,ua (h _ (zG h2))]
def wB (a b:List ByteArray) (w:World) (e:Ending) (w':World):Prop :=
  ∃ n err,e=.returned (.tuple #[.int .i64 n,.int .i64 err]) ∧
    ((au a b=true∧(aQ b).isSome=true∧err=0∧∃ k:Nat,n=k∧1≤k∧k≤64∧dB b (ofT k)=true∧∀ m,1≤m→m<k→dB b (ofT m)=false) ∨
     (au a b=true∧(aQ b).isSome=false∧err=31∧n=0)∨(au a b=false∧err=30∧n=0))∧Below w.heap.size w w'
theorem wC (v:Value) (a b:List ByteArray) (w:World) (hF:IsF w v a b) (hG:Gx w) :
  Calls Tryz.prog 29 #[v] w (wB a b w):=by
 obtain⟨p,c,q,d,rfl,hfa,hfb⟩:=id hF.ex
 go_enter Tryz.func29,Tryz.ntmps29
 go_upto_region 1 with fail
 have cc:=ar w (.slice p a.length c) (.slice q b.length d)
 have m1:=ae w (.cells #[.slice p a.length c,.slice q b.length d] 28)
 have zz:=size_alloc w (.cells #[.slice p a.length c,.slice q b.length d] 28)
 generalize w.alloc (.cells #[.slice p a.length c,.slice q b.length d] 28)=w1 at *
 have HCK:=zf (dD _ a b w1 (hF.below m1) (hG.below m1))
 have HA:=zf (hfa.below m1)
 have HB:=zf (hfb.below m1)
 have HG:=zf (hG.below m1)
 have c0:=cc.1
 have c1:=cc.2
 have hlt:w.heap.size<w1.heap.size:=by omega
 have M1:=zf m1
 clear hfa hfb cc zz m1 hF hG
 by_cases hck:au a b=true
 ·have hce:av a b=0:=by unfold av;rw[if_pos hck]
  rw[hce] at HCK
  obtain⟨ob1,ob7,oa1,oa7,oac,obc,ohd⟩:=aG hck
  clear hce
  go_wp2_with fail
  refine HCK.out.mono ?_
  rintro e w2 ⟨rfl,hb2⟩
  have d0:=aa hb2 hlt c0
  have d1:=aa hb2 hlt c1
  have HA2:=zf (HA.out.below hb2)
  have HB2:=zf (HB.out.below hb2)
  have HG2:=zf (HG.out.below hb2)
  have M2:=zf (M1.out.trans (hb2.mono M1.out.size))
  have hlt2:w.heap.size<w2.heap.size:=zq hlt hb2.size
  clear c0 c1 HA HB HG HCK M1 hb2 hlt
  have HS:=zf (iR _ b w2 HB2.out ob1 (by omega) HG2.out.g)
  have HC:=zf hck
  have HOC:=zf obc
  have HOB:=zf (And.intro ob1 ob7)
  clear hck oac obc ohd ob1 ob7 oa1 oa7
  by_cases hst:(aQ b).isSome=true
  ·rw[hst] at HS
   have HST:=zf hst
   have HW1:=zf (show dB b (ofT 64)=true by unfold dB;rw[wZ,pt HOC.out];exact hst)
   clear hst
   go_wp2_with fail
   refine HS.out.mono ?_
   rintro e w3 ⟨rfl,hb3⟩
   go_wp2
   go_loopw [5] (fun s5 wr=>∃ n:Nat,s5=.int .i64 n∧1≤n∧n≤64∧Hid (∀ m,1≤m→m<n→dB b (ofT m)=false)∧Below w2.heap.size w2 wr) (fun s5 _=>64-(intOf s5).toNat)
   case atStart=>exact⟨1,rfl,zn _,by decide,fun m h1 h2=>by omega,hb3⟩
   case round =>
    clear hb3
    obtain⟨n,rfl,hn1,hn2,hall,hbr⟩:=hrel
    go_wp2_with fail
    have hof:=y9 (n:Int) 64 wr (by omega) (by omega) (by decide) (by decide) (HG2.out.below hbr).g
    refine hof.mono ?_
    clear hof
    rintro e w4 ⟨rfl,hb4⟩
    have hB4:=hbr.trans (hb4.mono hbr.size)
    have d1':=aa hB4 hlt2 d1
    obtain⟨rr,hrr⟩:∃ r,r=ofT n:=⟨_,rfl⟩
    rw[show (b9 (CQ.real (mkRat (n:Int) 64))).1=rr from hrr.symm]
    obtain⟨ww,hww⟩:∃ x,x=dB b rr:=⟨_,rfl⟩
    have hwi:=xD _ b rr w4 (HB2.out.below hB4) HOB.out.1 (by have:=HOB.out.2;omega) (HG2.out.below hB4).g
    rw[←hww] at hwi
    have HWI:=zf hwi
    have hwn:dB b (ofT n)=ww:=by rw[hww,hrr]
    have HWN:=zf hwn
    clear hwi hww hrr hb4 hbr hwn
    go_wp2_with fail
    refine HWI.out.mono ?_
    rintro e w5 ⟨rfl,hb5⟩
    have hB5:=hB4.trans (hb5.mono hB4.size)
    cases ww with
    | true =>
     clear hb5
     go_wp2
     refine bodyPost_ret (v:=.tuple #[.int .i64 n,.int .i64 0]) (by simp[results,Tryz.results29,go_sem]) rfl ⟨_,_,rfl,Or.inl ⟨HC.out,HST.out,rfl,n,rfl,hn1,hn2,HWN.out,hall.out⟩,M2.out.trans (hB5.mono M2.out.size)⟩
    | false =>
     have hlt:n<64:=by
      rcases Ax n 64 with h | h
      ·exact h
      ·have h64:n=64:=by omega
       have h1:=HWN.out
       rw[h64,HW1.out] at h1
       cases h1
     have hall2:Hid (∀ m,1≤m→m<n+1→dB b (ofT m)=false):=fun m h1 h2=>by
      by_cases hm:m=n
      ·subst hm;exact HWN.out
      ·exact hall.out m h1 (by omega)
     clear hall hb5
     go_wp2
     go_roundw
     case rel=>exact⟨n+1,by go_num,by omega,by omega,hall2,hB5⟩
     case measure=>(first | (simp[intOf];done) | (simp[intOf];omega))
  ·have hst':(aQ b).isSome=false:=by simpa using hst
   rw[hst'] at HS
   have HST:=zf hst'
   clear hst hst'
   go_wp2_with fail
   refine HS.out.mono ?_
   rintro e w3 ⟨rfl,hb3⟩
   go_wp2
   refine bodyPost_ret (v:=.tuple #[.int .i64 0,.int .i64 31]) (by simp[results,Tryz.results29,go_sem]) rfl ⟨_,_,rfl,Or.inr (Or.inl ⟨HC.out,HST.out,rfl,rfl⟩),M2.out.trans (hb3.mono M2.out.size)⟩
 ·have HC:=zf (show au a b=false by simpa using hck)
  have hce:av a b=30:=by unfold av;rw[if_neg hck]
  rw[hce] at HCK
  clear hce
  go_wp2_with fail
  refine HCK.out.mono ?_
  rintro e w2 ⟨rfl,hb2⟩
  go_wp2
  refine bodyPost_ret (v:=.tuple #[.int .i64 0,.int .i64 30]) (by simp[results,Tryz.results29,go_sem]) rfl ⟨_,_,rfl,Or.inr (Or.inr ⟨HC.out,rfl,rfl⟩),M1.out.trans (hb2.mono M1.out.size)⟩
end Go.Proofs.YtdlioncecgnloaaGreatDoor
