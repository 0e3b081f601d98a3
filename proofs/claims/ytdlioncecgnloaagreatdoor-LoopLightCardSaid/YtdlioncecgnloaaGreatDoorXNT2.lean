/- Lemmas of this claim. -/
import Derived.Test.YtdlioncecgnloaaGreatDoorXCoef
import Derived.Test.YtdlioncecgnloaaGreatDoorXNC7
import Derived.Test.YtdlioncecgnloaaGreatDoorXNC8
set_option linter.all false
set_option maxRecDepth 100000
set_option maxHeartbeats 8000000
namespace Go.Proofs.YtdlioncecgnloaaGreatDoor
open Go.RowKit Dg Dc
def tq (q:Rat):ByteArray:=txt (CQ.real q)
def okQ (q:Rat):Prop:=dI (CQ.real q)=false
theorem po (q:Rat):okQ q↔df (rt q)=false:=by
 unfold okQ dI CQ.real
 have h0:df (rt 0)=false:=by rw[eu];exact iW
 rw[h0,Bool.or_false]
theorem pt {q:Rat} (h1:q.num.natAbs<10 ^ 2000) (h2:q.den<10 ^ 2000):okQ q:=by
 rw[po]
 unfold df rt
 have h3:=cj (k:=2000) (by decide) h1
 have h4:=cj (k:=2000) (by decide) h2
 simp only[Dy,decide_eq_false_iff_not]
 omega
theorem b8 {q:Rat} (h:okQ q):dM (tq q)=some (CQ.real q):=nA h
theorem fy {q:Rat} (h:okQ q):cA (CQ.real q)=(tq q,0):=by unfold cA;rw[if_neg (by rw[show dI (CQ.real q)=false from h];decide)];rfl
theorem mD (a b:Rat):(CQ.real a).add (CQ.real b)=CQ.real (a+b):=by show (⟨a+b,0+0⟩:CQ)=⟨a+b,0⟩;rw[Rat.add_zero]
theorem mF (a b:Rat):(CQ.real a).sub (CQ.real b)=CQ.real (a-b):=by show (⟨a-b,0-0⟩:CQ)=⟨a-b,0⟩;rw[show (0:Rat)-0=0 by grind]
theorem mE (a b:Rat):(CQ.real a).mul (CQ.real b)=CQ.real (a*b):=by unfold CQ.real CQ.mul;congr 1<;>grind
theorem rA (a b:Rat) (h:b≠0):(CQ.real a).div (CQ.real b)=CQ.real (a / b):=by unfold CQ.real CQ.div CQ.norm;congr 1<;>grind
theorem lr {a b:Rat} (ha:okQ a) (hb:okQ b) (h:okQ (a+b)):dV (tq a) (tq b)=tq (a+b):=by
 unfold dV aM bE
 rw[b8 ha,b8 hb]
 simp only[if_true]
 rw[mD,fy h]
theorem j7 {a b:Rat} (ha:okQ a) (hb:okQ b) (h:okQ (a-b)):dh (tq a) (tq b)=tq (a-b):=by
 unfold dh aM bE
 rw[b8 ha,b8 hb]
 simp only[if_true]
 rw[mF,fy h]
theorem eh {a b:Rat} (ha:okQ a) (hb:okQ b) (h:okQ (a*b)):bu (tq a) (tq b)=tq (a*b):=by
 unfold bu aM bE
 rw[b8 ha,b8 hb]
 simp only[if_true]
 rw[mE,fy h]
theorem iL {a b:Rat} (ha:okQ a) (hb:okQ b) (hne:b≠0) (h:okQ (a / b)):aR (tq a) (tq b)=tq (a / b):=by
 unfold aR aM oR
 rw[b8 ha,b8 hb]
 have hn:CQ.real b≠⟨0,0⟩:=fun e=>hne (congrArg CQ.re e)
 simp only[if_neg hn,if_true]
 rw[rA a b hne,fy h]
theorem tL {a b:Rat} (ha:okQ a) (hb:okQ b):jL (tq a) (tq b)=iZ a b:=by
 unfold jL qi d8
 simp only[dB,b8 ha,b8 hb,gP]
 simp[CQ.real]
theorem iE:tq 1=⟨#[49]⟩:=by
 unfold tq txt
 have e:cJ (ct (CQ.real 1))=[49]:=by
  rw[cw (z:=ct (CQ.real 1)) (by show (rt 0).n=0;rw[eu])]
  show aN ⟨false,1,1⟩=_
  unfold aN
  rw[dX (show 1<10 by decide)];rfl
 rw[e]
theorem pO:tq 0=⟨#[48]⟩:=by
 unfold tq txt
 have e:cJ (ct (CQ.real 0))=[48]:=by
  rw[cw (z:=ct (CQ.real 0)) (by show (rt 0).n=0;rw[eu])]
  show aN (rt 0)=_
  rw[eu]
  unfold aN
  rw[dX (show 0<10 by decide)];rfl
 rw[e]
theorem tA:tq (-1)=⟨#[45,49]⟩:=by
 unfold tq txt
 have e:cJ (ct (CQ.real (-1)))=[45,49]:=by
  rw[cw (z:=ct (CQ.real (-1))) (by show (rt 0).n=0;rw[eu])]
  show aN ⟨true,1,1⟩=_
  unfold aN
  rw[dX (show 1<10 by decide)];rfl
 rw[e]
theorem Bm (k:Nat) (h:k≠0):1<10 ^ k:=Nat.one_lt_pow h (by decide)
theorem iY:(1:Nat)<10 ^ 2000:=Bm 2000 (by decide)
theorem dR:okQ 1:=pt iY iY
theorem dq:okQ 0:=pt (Nat.lt_trans Nat.zero_lt_one iY) iY
theorem q_:okQ (-1):=pt iY iY
theorem sG {k:Rat} (h:okQ k):dO (tq k)=(decide (-1<k)&&decide (k<1)):=by
 unfold dO
 rw[←tA,←iE,tL h q_,tL h dR]
 unfold iZ
 by_cases h1:k=-1
 ·subst h1;decide
 ·by_cases h2:k < -1
  ·have h3:¬ (-1<k):=by grind
   simp[h1,h2,h3]
  ·have h3:-1<k:=by grind
   by_cases h4:k=1
   ·subst h4;simp[h1,h2]
   ·by_cases h5:k<1
    ·simp[h1,h2,h3,h4,h5]
    ·simp[h1,h2,h3,h4,h5]
theorem Al {s:ByteArray} (h:gq s.data.toList=true):∃ q,s=tq q∧okQ q:=by
 unfold gq at h
 cases hg:fm s.data.toList with
 | none=>rw[hg] at h;cases h
 | some z =>
  rw[hg] at h
  obtain⟨q,rfl,-,-,h3,h4⟩:=gK hg
  have him:q.im=0:=(aX _).1 (of_decide_eq_true h)
  have e:q=CQ.real q.re:=by cases q;simp only at him;subst him;rfl
  rw[e] at h3 h4
  exact⟨q.re,h4.symm,h3⟩
theorem tM {s:ByteArray} (h:bj s.data.toList=true):∃ q,s=tq q∧okQ q:=by
 unfold bj at h
 simp only[CC] at h
 exact Al h.1
theorem xI {s:ByteArray} (h:bj s.data.toList=true):aR s ⟨#[49]⟩=s:=by
 obtain⟨q,rfl,hq⟩:=tM h
 have e:q / 1=q:=by grind
 rw[←iE,iL hq dR (by decide) (by rw[e];exact hq),e]
theorem yu:bu ⟨#[49]⟩ ⟨#[49]⟩=⟨#[49]⟩:=by
 have e:(1:Rat)*1=1:=by grind
 rw[←iE,eh dR dR (by rw[e];exact dR),e]
open Go.RowKit Dg
def ofT (n:Nat):ByteArray:=(cA (CQ.real (mkRat n 64))).1
theorem Ag:ofT 64=⟨#[49]⟩:=by
 have e:mkRat ((64:Nat):Int) 64=1:=by decide +kernel
 unfold ofT
 rw[e,fy dR,iE]
theorem mI:∀ i,kC ⟨#[49]⟩ i=⟨#[49]⟩
 | 0=>rfl
 | i+1=>by unfold kC;rw[mI i,yu]
theorem rZ {b:List ByteArray} (h:∀ s∈b,bj s.data.toList=true):cD b ⟨#[49]⟩=b:=by
 refine List.ext_getElem (by simp[cD]) fun i h1 h2=>?_
 simp only[cD,Dk,ED,mI]
 rw[←cO h2,xI (h _ (Cs h2))]
def zO (a b:List ByteArray) (w:World) (e:Ending) (w':World):Prop :=
  ∃ n err,e=.returned (.tuple #[.int .i64 n,.int .i64 err]) ∧
    ((ar a b=true∧(bd b).isSome=true∧err=0∧∃ k:Nat,n=k∧1≤k∧k≤64∧dU b (ofT k)=true∧∀ m,1≤m→m<k→dU b (ofT m)=false) ∨
     (ar a b=true∧(bd b).isSome=false∧err=31∧n=0)∨(ar a b=false∧err=30∧n=0))∧Below w.heap.size w w'
theorem zP (v:Value) (a b:List ByteArray) (w:World) (hF:IsF w v a b) (hG:Gx w) :
  Calls Tryz.prog 29 #[v] w (zO a b w):=by
 obtain⟨p,c,q,d,rfl,hfa,hfb⟩:=id hF.ex
 go_enter Tryz.func29,Tryz.ntmps29
 go_upto_region 1 with fail
 have cc:=ap w (.slice p a.length c) (.slice q b.length d)
 have m1:=ae w (.cells #[.slice p a.length c,.slice q b.length d] 28)
 have zz:=size_alloc w (.cells #[.slice p a.length c,.slice q b.length d] 28)
 generalize w.alloc (.cells #[.slice p a.length c,.slice q b.length d] 28)=w1 at *
 have HCK:=BZ (dC _ a b w1 (hF.below m1) (hG.below m1))
 have HA:=BZ (hfa.below m1)
 have HB:=BZ (hfb.below m1)
 have HG:=BZ (hG.below m1)
 have c0:=cc.1
 have c1:=cc.2
 have hlt:w.heap.size<w1.heap.size:=by omega
 have M1:=BZ m1
 clear hfa hfb cc zz m1 hF hG
 by_cases hck:ar a b=true
 ·have hce:az a b=0:=by unfold az;rw[if_pos hck]
  rw[hce] at HCK
  obtain⟨ob1,ob7,oa1,oa7,oac,obc,ohd⟩:=aD hck
  clear hce
  go_wp2_with fail
  refine HCK.out.mono ?_
  rintro e w2 ⟨rfl,hb2⟩
  have d0:=aa hb2 hlt c0
  have d1:=aa hb2 hlt c1
  have HA2:=BZ (HA.out.below hb2)
  have HB2:=BZ (HB.out.below hb2)
  have HG2:=BZ (HG.out.below hb2)
  have M2:=BZ (M1.out.trans (hb2.mono M1.out.size))
  have hlt2:w.heap.size<w2.heap.size:=Cg hlt hb2.size
  clear c0 c1 HA HB HG HCK M1 hb2 hlt
  have HS:=BZ (j6 _ b w2 HB2.out ob1 (by omega) HG2.out.g)
  have HC:=BZ hck
  have HOC:=BZ obc
  have HOB:=BZ (And.intro ob1 ob7)
  clear hck oac obc ohd ob1 ob7 oa1 oa7
  by_cases hst:(bd b).isSome=true
  ·rw[hst] at HS
   have HST:=BZ hst
   have HW1:=BZ (show dU b (ofT 64)=true by unfold dU;rw[Ag,rZ HOC.out];exact hst)
   clear hst
   go_wp2_with fail
   refine HS.out.mono ?_
   rintro e w3 ⟨rfl,hb3⟩
   go_wp2
   go_loopw [5] (fun s5 wr=>∃ n:Nat,s5=.int .i64 n∧1≤n∧n≤64∧Hid (∀ m,1≤m→m<n→dU b (ofT m)=false)∧Below w2.heap.size w2 wr) (fun s5 _=>64-(intOf s5).toNat)
   case atStart=>exact⟨1,rfl,Cd _,by decide,fun m h1 h2=>by omega,hb3⟩
   case round =>
    clear hb3
    obtain⟨n,rfl,hn1,hn2,hall,hbr⟩:=hrel
    go_wp2_with fail
    have hof:=BP (n:Int) 64 wr (by omega) (by omega) (by decide) (by decide) (HG2.out.below hbr).g
    refine hof.mono ?_
    clear hof
    rintro e w4 ⟨rfl,hb4⟩
    have hB4:=hbr.trans (hb4.mono hbr.size)
    have d1':=aa hB4 hlt2 d1
    obtain⟨rr,hrr⟩:∃ r,r=ofT n:=⟨_,rfl⟩
    rw[show (cA (CQ.real (mkRat (n:Int) 64))).1=rr from hrr.symm]
    obtain⟨ww,hww⟩:∃ x,x=dU b rr:=⟨_,rfl⟩
    have hwi:=Ay _ b rr w4 (HB2.out.below hB4) HOB.out.1 (by have:=HOB.out.2;omega) (HG2.out.below hB4).g
    rw[←hww] at hwi
    have HWI:=BZ hwi
    have hwn:dU b (ofT n)=ww:=by rw[hww,hrr]
    have HWN:=BZ hwn
    clear hwi hww hrr hb4 hbr hwn
    go_wp2_with fail
    refine HWI.out.mono ?_
    rintro e w5 ⟨rfl,hb5⟩
    have hB5:=hB4.trans (hb5.mono hB4.size)
    cases ww with
    | true =>
     clear hb5
     go_wp2
     refine bodyPost_ret (v:=.tuple #[.int .i64 n,.int .i64 0]) (by simp[results,Tryz.results29,go_sem]) rfl ⟨_,_,rfl,Or.inl ⟨HC.out,HST.out,rfl,n,rfl,hn1,hn2,HWN.out,hall.out⟩,M2.out.trans (hB5.mono M2.out.size)⟩
    | false =>
     have hlt:n<64:=by
      rcases Dn n 64 with h | h
      ·exact h
      ·have h64:n=64:=by omega
       have h1:=HWN.out
       rw[h64,HW1.out] at h1
       cases h1
     have hall2:Hid (∀ m,1≤m→m<n+1→dU b (ofT m)=false):=fun m h1 h2=>by
      by_cases hm:m=n
      ·subst hm;exact HWN.out
      ·exact hall.out m h1 (by omega)
     clear hall hb5
     go_wp2
     go_roundw
     case rel=>exact⟨n+1,by go_num,by omega,by omega,hall2,hB5⟩
     case measure=>(first | (simp[intOf];done) | (simp[intOf];omega))
  ·have hst':(bd b).isSome=false:=by simpa using hst
   rw[hst'] at HS
   have HST:=BZ hst'
   clear hst hst'
   go_wp2_with fail
   refine HS.out.mono ?_
   rintro e w3 ⟨rfl,hb3⟩
   go_wp2
   refine bodyPost_ret (v:=.tuple #[.int .i64 0,.int .i64 31]) (by simp[results,Tryz.results29,go_sem]) rfl ⟨_,_,rfl,Or.inr (Or.inl ⟨HC.out,HST.out,rfl,rfl⟩),M2.out.trans (hb3.mono M2.out.size)⟩
 ·have HC:=BZ (show ar a b=false by simpa using hck)
  have hce:az a b=30:=by unfold az;rw[if_neg hck]
  rw[hce] at HCK
  clear hce
  go_wp2_with fail
  refine HCK.out.mono ?_
  rintro e w2 ⟨rfl,hb2⟩
  go_wp2
  refine bodyPost_ret (v:=.tuple #[.int .i64 0,.int .i64 30]) (by simp[results,Tryz.results29,go_sem]) rfl ⟨_,_,rfl,Or.inr (Or.inr ⟨HC.out,rfl,rfl⟩),M1.out.trans (hb2.mono M1.out.size)⟩
def inT (a x:List ByteArray) (t:Nat):Nat→ByteArray
 | 0=>⟨#[48]⟩
 | k+1=>if k≤t then dV (inT a x t k) (bu (aq a k) (aq x (t-k))) else inT a x t k
def mn (b y:List ByteArray) (t:Nat) (n:ByteArray):Nat→ByteArray
 | 0=>n
 | k+1=>if 0<k∧k≤t then dh (mn b y t n k) (bu (aq b k) (aq y (t-k))) else mn b y t n k
def lH (a b x y:List ByteArray) (t:Nat):ByteArray:=mn b y t (inT a x t a.length) b.length
def aH (a b x:List ByteArray):Nat→List ByteArray
 | 0=>[]
 | t+1=>aH a b x t++[lH a b x (aH a b x t) t]
theorem aG (a b x:List ByteArray):∀ t,(aH a b x t).length=t
 | 0=>rfl
 | t+1=>by unfold aH;rw[Cq,aG a b x t];rfl
theorem IsS.all {w:World}{p:Option Addr}{n c:Nat}{l:List ByteArray} (h:IsS w (.slice p n c) l) (h0:0<l.length):∃ b o,p=some ⟨b,o,none⟩∧b<w.heap.size∧∀ k,k<l.length→w.cell? ⟨b,o+k,none⟩=some (.string (aq l k)):=by
 obtain⟨b,o,rfl,hlt,-⟩:=h.get h0
 refine⟨b,o,rfl,hlt,fun k hk=>?_⟩
 obtain⟨b',o',e,-,hc⟩:=h.get hk
 obtain⟨rfl,rfl⟩:b=b'∧o=o':=by simpa using e
 rw[hc,cO]
theorem uB (v vx:Value) (a b x:List ByteArray) (w:World) (hF:IsF w v a b) (hx:IsS w vx x) (ha0:0<a.length) (hb0:0<b.length) (ha:a.length<1000) (hb:b.length<1000) (hxl:x.length<1000) (hG:Gw w) :
  Calls Tryz.prog 100 #[v,vx] w fun e w'=>∃ u,e=.returned u∧IsS w' u (aH a b x x.length)∧Below w.heap.size w w':=by
 obtain⟨p,c,q,d,rfl,hfa,hfb⟩:=id hF.ex
 obtain⟨px,cx,rfl,-⟩:=id hx.form
 go_enter Tryz.func100,Tryz.ntmps100
 go_upto_region 1 with fail
 have cc:=ap w (.slice p a.length c) (.slice q b.length d)
 have m1:=ae w (.cells #[.slice p a.length c,.slice q b.length d] 28)
 have zz:=size_alloc w (.cells #[.slice p a.length c,.slice q b.length d] 28)
 generalize w.alloc (.cells #[.slice p a.length c,.slice q b.length d] 28)=w1 at *
 obtain⟨ba,oa,rfl,hba,ca⟩:=(hfa.below m1).all ha0
 obtain⟨bb,ob,rfl,hbb,cb⟩:=(hfb.below m1).all hb0
 have HA:=BZ ca
 have HB:=BZ cb
 have HX:=BZ (hx.below m1)
 have HG:=BZ (hG.below m1)
 have C0:=BZ cc.1
 have C1:=BZ cc.2
 have hlt:w.heap.size<w1.heap.size:=by omega
 have M1:=BZ m1
 clear hfa hfb cc zz m1 hF hG hx ca cb
 go_wp2
 go_loopw [5,14] (fun s5 s14 wr=>∃ t:Nat,s14=.int .i64 t∧t≤x.length∧aZ wr w1.heap.size s5 (aH a b x t)∧Below w1.heap.size w1 wr) (fun _ s14 _=>x.length-(intOf s14).toNat)
 case atStart=>exact⟨0,rfl,Cp _,aZ.nil _ _,Below.refl _ _⟩
 case round =>
  rename World=>wo
  obtain⟨t,rfl,htn,hown,hbr⟩:=hrel
  by_cases ht:t<x.length
  ·obtain⟨py,cy,rfl,-⟩:=id hown.isS.form
   obtain⟨bx,ox,rfl,hbx,cx'⟩:=HX.out.all (by omega)
   have CX:=BZ cx'
   have d0:=aa hbr hlt C0.out
   obtain⟨y,hy⟩:∃ y,y=aH a b x t:=⟨_,rfl⟩
   have hyl:y.length=t:=by rw[hy,aG]
   have HY:=BZ hy
   rw[←hy] at hown ⊢
   rw[hyl]
   have HYL:=BZ hyl
   have HOWN:=BZ hown
   have HBR:=BZ hbr
   clear hy hyl hown cx' hbr
   go_wp2
   go_loopw [7,20] (fun s7 s20 wr2=>∃ k:Nat,s7=.string (inT a x t k)∧s20=.int .i64 k∧k≤a.length∧Below wo.heap.size wo wr2) (fun _ s20 _=>a.length-(intOf s20).toNat)
   case atStart=>exact⟨0,rfl,rfl,Cp _,Below.refl _ _⟩
   case round =>
    clear d0
    obtain⟨k,rfl,rfl,hkn,hbk⟩:=hrel
    have hB1:=HBR.out.trans (hbk.mono HBR.out.size)
    by_cases hk:k<a.length
    ·have hc:=aa hB1 hba (HA.out k hk)
     by_cases hkt:k≤t
     ·have hdt:decide ((k:Int)≤(t:Int))=true:=by simp;omega
      have e1:(t:Int)-(k:Int)=((t-k:Nat):Int):=by omega
      have hx:=aa hB1 hbx (CX.out (t-k) (by omega))
      have HT:=BZ (show inT a x t (k+1)=dV (inT a x t k) (bu (aq a k) (aq x (t-k))) by show (if k≤t then _ else _)=_;rw[if_pos hkt])
      have hlx:t-k<x.length:=by omega
      go_wp2_with fail
      refine (dP _ _ wr (HG.out.below hB1)).mono ?_
      rintro e w3 ⟨rfl,hb3⟩
      go_wp2_with fail
      refine (iO _ _ w3 ((HG.out.below hB1).below hb3)).mono ?_
      rintro e w4 ⟨rfl,hb4⟩
      have hB4:=hbk.trans ((hb3.trans (hb4.mono hb3.size)).mono hbk.size)
      clear hc hx hb3 hb4 hbk hB1
      go_wp2
      go_roundw
      case rel=>exact⟨k+1,by rw[HT.out],by go_num,by omega,hB4⟩
      case measure=>(first | (simp[intOf];done) | (simp[intOf];omega))
     ·have hdt:decide ((k:Int)≤(t:Int))=false:=by simp;omega
      have HT:=BZ (show inT a x t (k+1)=inT a x t k by show (if k≤t then _ else _)=_;rw[if_neg hkt])
      go_wp2
      go_roundw
      case rel=>exact⟨k+1,by rw[HT.out],by go_num,by omega,hbk⟩
      case measure=>(first | (simp[intOf];done) | (simp[intOf];omega))
    ·have hk':k=a.length:=by omega
     subst hk'
     rename World=>w5
     obtain⟨n0,hn0⟩:∃ n,n=inT a x t a.length:=⟨_,rfl⟩
     rw[←hn0]
     have HN0:=BZ hn0
     have d1:=aa hB1 hlt C1.out
     clear hn0 hk
     go_wp2
     go_loopw [7,42] (fun s7 s42 wr2=>∃ k:Nat,s7=.string (mn b y t n0 k)∧s42=.int .i64 k∧k≤b.length∧Below wo.heap.size wo wr2) (fun _ s42 _=>b.length-(intOf s42).toNat)
     case atStart=>exact⟨0,rfl,rfl,Cp _,hbk⟩
     case round =>
      clear d1 hbk hB1
      obtain⟨k,rfl,rfl,hkn,hbk⟩:=hrel
      have hB1:=HBR.out.trans (hbk.mono HBR.out.size)
      by_cases hk:k<b.length
      ·have hc:=aa hB1 hbb (HB.out k hk)
       by_cases hkt:0<k∧k≤t
       ·have hd0:decide ((0:Int)<(k:Int))=true:=by simp;omega
        have hdt:decide ((k:Int)≤(t:Int))=true:=by simp;omega
        have e1:(t:Int)-(k:Int)=((t-k:Nat):Int):=by omega
        have HT:=BZ (show mn b y t n0 (k+1)=dh (mn b y t n0 k) (bu (aq b k) (aq y (t-k))) by show (if 0<k∧k≤t then _ else _)=_;rw[if_pos hkt])
        obtain⟨by',oy,rfl,hby,cy'⟩:=(HOWN.out.below hbk).isS.all (by rw[HYL.out];omega)
        have hy:=cy' (t-k) (by rw[HYL.out];omega)
        have hlx:t-k<t:=by omega
        clear cy'
        go_wp2_with fail
        refine (dP _ _ wr (HG.out.below hB1)).mono ?_
        rintro e w3 ⟨rfl,hb3⟩
        go_wp2_with fail
        refine (jX _ _ w3 ((HG.out.below hB1).below hb3)).mono ?_
        rintro e w4 ⟨rfl,hb4⟩
        have hB4:=hbk.trans ((hb3.trans (hb4.mono hb3.size)).mono hbk.size)
        clear hc hy hb3 hb4 hbk hB1
        go_wp2
        go_roundw
        case rel=>exact⟨k+1,by rw[HT.out],by go_num,by omega,hB4⟩
        case measure=>(first | (simp[intOf];done) | (simp[intOf];omega))
       ·have HT:=BZ (show mn b y t n0 (k+1)=mn b y t n0 k by show (if 0<k∧k≤t then _ else _)=_;rw[if_neg hkt])
        by_cases hk0:0<k
        ·have hd0:decide ((0:Int)<(k:Int))=true:=by simp;omega
         have hdt:decide ((k:Int)≤(t:Int))=false:=by simp;omega
         go_wp2
         go_roundw
         case rel=>exact⟨k+1,by rw[HT.out],by go_num,by omega,hbk⟩
         case measure=>(first | (simp[intOf];done) | (simp[intOf];omega))
        ·have hd0:decide ((0:Int)<(k:Int))=false:=by simp;omega
         go_wp2
         go_roundw
         case rel=>exact⟨k+1,by rw[HT.out],by go_num,by omega,hbk⟩
         case measure=>(first | (simp[intOf];done) | (simp[intOf];omega))
      ·have hk':k=b.length:=by omega
       subst hk'
       have hs:mn b y t n0 b.length=lH a b x y t:=by rw[HN0.out];rfl
       rw[hs]
       have hw:aZ wr w1.heap.size (.slice py t cy) y:=by have:=HOWN.out.below hbk;rwa [HYL.out] at this
       have hbs:=hB1.size
       have hyl:y.length<1000000000:=by rw[HYL.out];omega
       have HS:=BZ (show aH a b x (t+1)=y++[lH a b x y t] by show aH a b x t++_=_;rw[←HY.out])
       clear hs hk
       generalize Value.slice py t cy=v5 at hw ⊢
       go_wp2_with (at_builtin;refine aO 26 Tryz.underlying26 rfl (.tmp 65) (.tmp 67) rfl w1.heap.size _ _ _ rfl hw rfl hyl hbs ?_)
       intro v' w6 hw6 hb6
       have hB6:=hb6 _ _ hB1 (Cd _)
       rw[←HS.out] at hw6
       clear hw hb6 hB1 hbk hyl
       go_wp2
       go_roundw
       case rel=>exact⟨t+1,by go_num,by omega,hw6,hB6⟩
       case measure=>(first | (simp[intOf];done) | (simp[intOf];omega))
  ·have ht':t=x.length:=by omega
   subst ht'
   have hs:=hown.isS
   obtain⟨q1,d1,rfl,-⟩:=id hs.form
   clear ht hown
   go_wp2
   go_ret
   exact⟨_,rfl,hs,M1.out.trans (hbr.mono M1.out.size)⟩
def fE (n:Nat):List ByteArray:=(List.range n).map fun i=>if i=0 then ⟨#[49]⟩ else ⟨#[48]⟩
theorem dN (n:Nat):(fE n).length=n:=by simp[fE]
theorem qM {n i:Nat} (h:i<(fE n).length):(fE n)[i]=if i=0 then ⟨#[49]⟩ else ⟨#[48]⟩:=by simp[fE]
theorem xT {n i:Nat} (h:i<n) (h0:i≠0):(bm (fE n) i).set i ⟨#[48]⟩=bm (fE n) (i+1):=by
 have hl:i<(fE n).length:=by rw[dN];exact h
 have:=fW (fE n) hl
 rw[qM hl,if_neg h0] at this
 exact this
theorem vB {n:Nat} (h:0<n):((bm (fE n) 0).set 0 ⟨#[48]⟩).set 0 ⟨#[49]⟩=bm (fE n) 1:=by
 have hl:0<(fE n).length:=by rw[dN];exact h
 have:=fW (fE n) hl
 rw[qM hl,if_pos rfl] at this
 rw[List.set_set];exact this
def pU (e0:Int) (l:List ByteArray) (w:World) (e:Ending) (w':World):Prop :=
 ∃ v,e=.returned (.tuple #[v,.int .i64 e0])∧(e0=0→IsS w' v l)∧(e0≠0→v=.slice none 0 0)∧Below w.heap.size w w'
def jh (a b:List ByteArray) (n:Int):Int:=if ar a b=true then (if 0≤n∧n≤64 then 0 else 8) else 30
theorem uX (v:Value) (a b:List ByteArray) (n:Int) (w:World) (hF:IsF w v a b) (hG:Gx w) :
  Calls Tryz.prog 34 #[v,.int .i64 n] w (pU (jh a b n) (aH a b (fE n.toNat) n.toNat) w):=by
 obtain⟨p,c,q,d,rfl,hfa,hfb⟩:=id hF.ex
 go_enter Tryz.func34,Tryz.ntmps34
 go_upto_region 1 with fail
 have cc:=ap w (.slice p a.length c) (.slice q b.length d)
 have m1:=ae w (.cells #[.slice p a.length c,.slice q b.length d] 28)
 have zz:=size_alloc w (.cells #[.slice p a.length c,.slice q b.length d] 28)
 generalize w.alloc (.cells #[.slice p a.length c,.slice q b.length d] 28)=w1 at *
 have HCK:=BZ (dC _ a b w1 (hF.below m1) (hG.below m1))
 have HA:=BZ (hfa.below m1)
 have HB:=BZ (hfb.below m1)
 have HG:=BZ (hG.below m1)
 have c0:=cc.1
 have c1:=cc.2
 have hlt:w.heap.size<w1.heap.size:=by omega
 have M1:=BZ m1
 clear hfa hfb cc zz m1 hF hG
 by_cases hck:ar a b=true
 ·have hce:az a b=0:=by unfold az;rw[if_pos hck]
  rw[hce] at HCK
  obtain⟨ob1,ob7,oa1,oa7,oac,obc,ohd⟩:=aD hck
  clear hce
  go_wp2_with fail
  refine HCK.out.mono ?_
  rintro e w2 ⟨rfl,hb2⟩
  have d0:=aa hb2 hlt c0
  have d1:=aa hb2 hlt c1
  have HA2:=BZ (HA.out.below hb2)
  have HB2:=BZ (HB.out.below hb2)
  have HG2:=BZ (HG.out.below hb2)
  have M2:=BZ (M1.out.trans (hb2.mono M1.out.size))
  have hlt2:w.heap.size<w2.heap.size:=Cg hlt hb2.size
  clear c0 c1 HA HB HG HCK M1 hb2 hlt
  have HC:=BZ hck
  have HF2:=BZ (show IsF w2 (.agg #[.slice p a.length c,.slice q b.length d]) a b from⟨⟨p,c,q,d,rfl,HA2.out,HB2.out⟩⟩)
  have HLN:=BZ (And.intro oa1 (And.intro oa7 (And.intro ob1 ob7)))
  clear hck oac obc ohd ob1 ob7 oa1 oa7
  by_cases hn0:n<0
  ·have hd:decide (n<0)=true:=decide_eq_true hn0
   have he:jh a b n=8:=by unfold jh;rw[if_pos HC.out,if_neg (by omega)]
   have HE:=BZ he
   clear he
   go_wp2
   refine bodyPost_ret (v:=.tuple #[.slice none 0 0,.int .i64 8]) (by simp[results,Tryz.results34,go_sem]) rfl ⟨_,by rw[HE.out],(fun h=>by rw[HE.out] at h;cases h),(fun _=>rfl),M2.out⟩
  ·have hd:decide (n<0)=false:=decide_eq_false hn0
   by_cases hn1:64<n
   ·have hd1:decide (64<n)=true:=decide_eq_true hn1
    have he:jh a b n=8:=by unfold jh;rw[if_pos HC.out,if_neg (by omega)]
    have HE:=BZ he
    clear he
    go_wp2
    refine bodyPost_ret (v:=.tuple #[.slice none 0 0,.int .i64 8]) (by simp[results,Tryz.results34,go_sem]) rfl ⟨_,by rw[HE.out],(fun h=>by rw[HE.out] at h;cases h),(fun _=>rfl),M2.out⟩
   ·have hd1:decide (64<n)=false:=decide_eq_false hn1
    have he:jh a b n=0:=by unfold jh;rw[if_pos HC.out,if_pos (by omega)]
    have HE:=BZ he
    obtain⟨m,rfl⟩:∃ m:Nat,n=m:=⟨n.toNat,by omega⟩
    have hm64:m≤64:=by omega
    clear he hn0 hn1
    rw[EH]
    go_wp2_with (at_make;refine bH 26 Tryz.underlying26 rfl (.tmp 20) (.tmp 20) rfl _ _ m rfl rfl rfl rfl (by omega) ?_)
    intro w3 hrow hb3 hs3
    have hB3:=hb3 _ _ (Below.refl _ _) (Cd _)
    have hr3:bV w3 w2.heap.size m (bm (fE m) 0):=by rw[fk,dN];exact hrow
    have hdr:=fun (_:Unit)=>hd
    clear hrow hb3 hs3 hdr
    go_wp2
    go_loopw [24] (fun s24 wr=>∃ i:Nat,s24=.int .i64 i∧i≤m∧bV wr w2.heap.size m (bm (fE m) i)∧Below w2.heap.size w2 wr) (fun s24 _=>m-(intOf s24).toNat)
    case atStart=>exact⟨0,rfl,Cp _,hr3,hB3⟩
    case round =>
     clear hr3 hB3
     obtain⟨i,rfl,him,hr,hbr⟩:=hrel
     by_cases hi:i<m
     ·have hl:i<(bm (fE m) i).length:=by rw[fV _ (by rw[dN];omega),dN];exact hi
      have rc:=hr.cell hl
      have rf:=hr.free i
      have s1:=hr.set i ⟨#[48]⟩
      have hb1:=hbr.setCell (p:=⟨w2.heap.size,i,none⟩) (Cd _) (.string ⟨#[48]⟩)
      by_cases h0:i=0
      ·subst h0
       have s2:=s1.set 0 ⟨#[49]⟩
       rw[vB hi] at s2
       have hb2:=hb1.setCell (p:=⟨w2.heap.size,0,none⟩) (Cd _) (.string ⟨#[49]⟩)
       have rc2:=s1.cell (j:=0) (by simpa using hl)
       have rf2:=s1.free 0
       clear s1 hb1
       go_wp2
       go_roundw
       case rel=>exact⟨1,by go_num,by omega,s2,hb2⟩
       case measure=>(first | (simp[intOf];done) | (simp[intOf];omega))
      ·have hz:((i:Int) == 0)=false:=by simp;omega
       rw[xT hi h0] at s1
       go_wp2
       go_roundw
       case rel=>exact⟨i+1,by go_num,by omega,s1,hb1⟩
       case measure=>(first | (simp[intOf];done) | (simp[intOf];omega))
     ·have him':i=m:=by omega
      subst him'
      have hfull:bm (fE i) i=fE i:=by have:=fj (fE i);rwa [dN] at this
      rw[hfull] at hr
      have hX:=hr.isS
      rw[dN] at hX
      have HO:=BZ (uB _ _ a b (fE i) wr (HF2.out.below hbr) hX HLN.out.1 HLN.out.2.2.1 (by have:=HLN.out.2.1;omega) (by have:=HLN.out.2.2.2;omega) (by rw[dN];omega) (HG2.out.below hbr).g)
      rw[dN] at HO
      have d0':=aa hbr hlt2 d0
      have d1':=aa hbr hlt2 d1
      clear hfull hr hX d0 d1 hi
      go_wp2_with fail
      refine HO.out.mono ?_
      rintro e w5 ⟨u,rfl,hu,hb5⟩
      obtain⟨pu,cu,rfl,-⟩:=id hu.form
      go_wp2
      refine bodyPost_ret (v:=.tuple #[.slice pu _ cu,.int .i64 0]) (by simp[results,Tryz.results34,go_sem];rfl) rfl ⟨_,by rw[HE.out],(fun _=>hu),(fun h=>absurd HE.out h),M2.out.trans ((hbr.trans (hb5.mono hbr.size)).mono M2.out.size)⟩
 ·have HC:=BZ (show jh a b n=30 by unfold jh;rw[if_neg hck])
  have hce:az a b=30:=by unfold az;rw[if_neg hck]
  rw[hce] at HCK
  clear hce
  go_wp2_with fail
  refine HCK.out.mono ?_
  rintro e w2 ⟨rfl,hb2⟩
  go_wp2
  refine bodyPost_ret (v:=.tuple #[.slice none 0 0,.int .i64 30]) (by simp[results,Tryz.results34,go_sem]) rfl ⟨_,by rw[HC.out],(fun h=>by rw[HC.out] at h;cases h),(fun _=>rfl),M1.out.trans (hb2.mono M1.out.size)⟩
def dK (x:List ByteArray):Bool:=x.all fun s=>bj s.data.toList
def gr (a b x:List ByteArray):Int:=if ar a b=true then (if 64<x.length then 3 else if dK x=true then 0 else 2) else 30
theorem su {x:List ByteArray}{i:Nat} (h:i<x.length):dK (x.take (i+1))=(dK (x.take i)&&bj (aq x i).data.toList):=by
 unfold dK
 rw[ia h,cO]
theorem vf {x:List ByteArray}{i:Nat} (h:i<x.length) (hf:bj (aq x i).data.toList=false):dK x=false:=by
 unfold dK
 exact lO h _ (by rw[cO];exact hf)
theorem RunN (v vx:Value) (a b x:List ByteArray) (w:World) (hF:IsF w v a b) (hX:IsS w vx x) (hG:Gx w) :
  Calls Tryz.prog 32 #[v,vx] w (pU (gr a b x) (aH a b x x.length) w):=by
 obtain⟨px,cx,rfl,-⟩:=id hX.form
 have hYtdlioncecgnloaaGreatDoor:=fun w1 (h:Below w.heap.size w w1)=>hX.below h
 obtain⟨p,c,q,d,rfl,hfa,hfb⟩:=id hF.ex
 go_enter Tryz.func32,Tryz.ntmps32
 go_upto_region 1 with fail
 have cc:=ap w (.slice p a.length c) (.slice q b.length d)
 have m1:=ae w (.cells #[.slice p a.length c,.slice q b.length d] 28)
 have zz:=size_alloc w (.cells #[.slice p a.length c,.slice q b.length d] 28)
 generalize w.alloc (.cells #[.slice p a.length c,.slice q b.length d] 28)=w1 at *
 have HCK:=BZ (dC _ a b w1 (hF.below m1) (hG.below m1))
 have HA:=BZ (hfa.below m1)
 have HB:=BZ (hfb.below m1)
 have HG:=BZ (hG.below m1)
 have c0:=cc.1
 have c1:=cc.2
 have hlt:w.heap.size<w1.heap.size:=by omega
 have M1:=BZ m1
 clear hfa hfb cc zz m1 hF hG
 have HX:=BZ (hYtdlioncecgnloaaGreatDoor w1 M1.out)
 clear hYtdlioncecgnloaaGreatDoor hX
 by_cases hck:ar a b=true
 ·have hce:az a b=0:=by unfold az;rw[if_pos hck]
  rw[hce] at HCK
  obtain⟨ob1,ob7,oa1,oa7,oac,obc,ohd⟩:=aD hck
  clear hce
  go_wp2_with fail
  refine HCK.out.mono ?_
  rintro e w2 ⟨rfl,hb2⟩
  have d0:=aa hb2 hlt c0
  have d1:=aa hb2 hlt c1
  have HA2:=BZ (HA.out.below hb2)
  have HB2:=BZ (HB.out.below hb2)
  have HG2:=BZ (HG.out.below hb2)
  have M2:=BZ (M1.out.trans (hb2.mono M1.out.size))
  have hlt2:w.heap.size<w2.heap.size:=Cg hlt hb2.size
  clear c0 c1 HA HB HG HCK M1 hlt
  have HX2:=BZ (HX.out.below hb2)
  clear hb2 HX
  have HC:=BZ hck
  have HF2:=BZ (show IsF w2 (.agg #[.slice p a.length c,.slice q b.length d]) a b from⟨⟨p,c,q,d,rfl,HA2.out,HB2.out⟩⟩)
  have HLN:=BZ (And.intro oa1 (And.intro oa7 (And.intro ob1 ob7)))
  clear hck oac obc ohd ob1 ob7 oa1 oa7
  by_cases hn1:64<x.length
  ·have hd1:decide ((64:Int)<(x.length:Int))=true:=by simp;omega
   have he:gr a b x=3:=by unfold gr;rw[if_pos HC.out,if_pos hn1]
   have HE:=BZ he
   clear he hn1
   go_wp2
   refine bodyPost_ret (v:=.tuple #[.slice none 0 0,.int .i64 3]) (by simp[results,Tryz.results32,go_sem]) rfl ⟨_,by rw[HE.out],(fun h=>by rw[HE.out] at h;cases h),(fun _=>rfl),M2.out⟩
  ·have hd1:decide ((64:Int)<(x.length:Int))=false:=by simp;omega
   have hx64:x.length≤64:=by omega
   have HR:=BZ (show gr a b x=if dK x=true then 0 else 2 by unfold gr;rw[if_pos HC.out,if_neg hn1])
   clear hn1
   have hw0:Below w2.heap.size w2 w2:=Below.refl _ _
   go_wp2
   go_loopw [19] (fun s19 wr=>∃ i:Nat,s19=.int .i64 i∧i≤x.length∧Hid (dK (x.take i)=true)∧Below w2.heap.size w2 wr) (fun s19 _=>x.length-(intOf s19).toNat)
   case atStart=>exact⟨0,rfl,Cp _,rfl,hw0⟩
   case round =>
    clear hw0
    obtain⟨i,rfl,hin,hall,hbr⟩:=hrel
    by_cases hi:i<x.length
    ·obtain⟨bx,ox,rfl,hbx,cx'⟩:=(HX2.out.below hbr).all (by omega)
     have hc:=cx' i hi
     clear cx'
     go_wp2_with fail
     refine (nt _ wr (HG2.out.below hbr)).mono ?_
     rintro e w3 ⟨bb,rfl,hbb,hb3⟩
     have hB3:=hbr.trans (hb3.mono hbr.size)
     cases bb with
     | true =>
      have HT:=BZ (show dK (x.take (i+1))=true by rw[su hi,hall.out,hbb.out];rfl)
      clear hc hbb hb3 hbr hall
      go_wp2
      go_roundw
      case rel=>exact⟨i+1,by go_num,by omega,HT.out,hB3⟩
      case measure=>(first | (simp[intOf];done) | (simp[intOf];omega))
     | false =>
      have he:gr a b x=2:=by rw[HR.out,if_neg (by rw[vf hi hbb.out];decide)]
      have HE:=BZ he
      clear he hbb hall
      go_wp2
      refine bodyPost_ret (v:=.tuple #[.slice none 0 0,.int .i64 2]) (by simp[results,Tryz.results32,go_sem]) rfl ⟨_,by rw[HE.out],(fun h=>by rw[HE.out] at h;cases h),(fun _=>rfl),M2.out.trans (hB3.mono M2.out.size)⟩
    ·have hi':i=x.length:=by omega
     subst hi'
     have hall':=hall.out
     rw[Cv] at hall'
     have he:gr a b x=0:=by rw[HR.out,if_pos hall']
     have HE:=BZ he
     have HO:=BZ (uB _ _ a b x wr (HF2.out.below hbr) (HX2.out.below hbr) HLN.out.1 HLN.out.2.2.1 (by have:=HLN.out.2.1;omega) (by have:=HLN.out.2.2.2;omega) (by omega) (HG2.out.below hbr).g)
     have d0':=aa hbr hlt2 d0
     have d1':=aa hbr hlt2 d1
     clear he hall hall' d0 d1 hi
     go_wp2_with fail
     refine HO.out.mono ?_
     rintro e w5 ⟨u,rfl,hu,hb5⟩
     obtain⟨pu,cu,rfl,-⟩:=id hu.form
     go_wp2
     refine bodyPost_ret (v:=.tuple #[.slice pu _ cu,.int .i64 0]) (by simp[results,Tryz.results32,go_sem];rfl) rfl ⟨_,by rw[HE.out],(fun _=>hu),(fun h=>absurd HE.out h),M2.out.trans ((hbr.trans (hb5.mono hbr.size)).mono M2.out.size)⟩
 ·have HC:=BZ (show gr a b x=30 by unfold gr;rw[if_neg hck])
  have hce:az a b=30:=by unfold az;rw[if_neg hck]
  rw[hce] at HCK
  clear hce
  go_wp2_with fail
  refine HCK.out.mono ?_
  rintro e w2 ⟨rfl,hb2⟩
  go_wp2
  refine bodyPost_ret (v:=.tuple #[.slice none 0 0,.int .i64 30]) (by simp[results,Tryz.results32,go_sem]) rfl ⟨_,by rw[HC.out],(fun h=>by rw[HC.out] at h;cases h),(fun _=>rfl),M1.out.trans (hb2.mono M1.out.size)⟩
end Go.Proofs.YtdlioncecgnloaaGreatDoor
