/- L -/
import Derived.Test.YtgakllaobooabaaGreatDoorXCoef
import Derived.Test.YtgakllaobooabaaGreatDoorXNC7
import Derived.Test.YtgakllaobooabaaGreatDoorXNC8
import Derived.Test.YtgakllaobooabaaGreatDoorXB
set_option linter.all false
set_option maxRecDepth 100000
set_option maxHeartbeats 8000000
namespace Go.Proofs.YtgakllaobooabaaGreatDoor
open Go.RowKit Dg
theorem ju (v:Value) (l:List ByteArray) (w:World) (hl:IsS w v l) (hpos:0<l.length) (hlen:l.length<1000000) (hG:Gw w) :
  Calls Tryz.prog 11 #[v] w fun e w'=>e=.returned (.bool (aK l).isSome)/\Below w.heap.size w w':=by
 have HP:=At (wC v l w hl hpos hlen hG);obtain⟨p,c,rfl,-⟩:=hl.form;go_enter Tryz.func11,Tryz.ntmps11;go_wp2_with fail
 refine HP.out.mono ?_;rintro e w1 ⟨v1,ok,rfl,hcase,hb1⟩;rcases hcase with ⟨pf,hq,rfl,hp,-⟩ | ⟨hq,rfl,rfl⟩
 ·have HQ:=At hq;obtain⟨p1,c1,rfl,-⟩:=hp.form;clear hq hp;go_wp2;go_ret;exact⟨by rw[HQ.out];rfl,hb1⟩
 ·have HQ:=At hq;clear hq;go_wp2;go_ret;exact⟨by rw[HQ.out];rfl,hb1⟩
structure IsF (w:World) (v:Value) (a b:List ByteArray):Prop where
 ex:∃ p c q d,v=.agg #[.slice p a.length c,.slice q b.length d]/\IsS w (.slice p a.length c) a/\IsS w (.slice q b.length d) b
theorem IsF.below {w w':World}{v:Value}{a b:List ByteArray} (h:IsF w v a b) (hb:Below w.heap.size w w'):IsF w' v a b:=by
 obtain⟨p,c,q,d,e,h1,h2⟩:=h.ex;exact⟨p,c,q,d,e,h1.below hb,h2.below hb⟩
theorem IsS.words {w:World}{p:Option Addr}{n c:Nat}{l:List ByteArray} (h:IsS w (.slice p n c) l):dV w p l:=by
 refine⟨fun hl=>?_⟩;obtain⟨b,o,rfl,hlt,-⟩:=h.get hl;refine⟨b,o,rfl,hlt,fun i hi=>?_⟩;obtain⟨b',o',e,-,hc⟩:=h.get hi;obtain⟨rfl,rfl⟩:b=b'/\o=o':=by simpa using e
 exact hc
def au (a b:List ByteArray):Int:=if aq a b=true then 0 else 30
theorem dC (v:Value) (a b:List ByteArray) (w:World) (h:IsF w v a b) (hG:Gx w) :
  Calls Tryz.prog 10 #[v] w fun e w'=>e=.returned (.int .i64 (au a b))/\Below w.heap.size w w':=by
 obtain⟨p,c,q,d,rfl,h1,h2⟩:=h.ex;refine (zh p q c d a b w h1.words h2.words hG).mono ?_;rintro e w' ⟨n,rfl,hn,hb⟩;refine⟨?_,hb⟩;rcases hn with ⟨rfl,hc⟩ | ⟨rfl,hc⟩
 ·unfold au;rw[hc.out];rfl
 ·unfold au;rw[hc.out];rfl
theorem aN {a b:List ByteArray} (h:aq a b=true):1<=b.length/\b.length<=7/\1<=a.length/\a.length<=7/\(∀ s∈a,bN s.data.toList=true)/\(∀ s∈b,bN s.data.toList=true)/\oT b=some [49]:=by
 unfold aq eR at h;simp only[AV,decide_eq_true_eq,A5] at h;exact⟨h.1.2.1.1,h.1.2.1.2,h.1.1.1.1,h.1.1.1.2,h.1.1.2,h.1.2.2,h.2⟩
theorem ar (w:World) (x y:Value):(w.alloc (.cells #[x,y] 24)).cell? ⟨w.heap.size,0,none⟩=some x/\(w.alloc (.cells #[x,y] 24)).cell? ⟨w.heap.size,1,none⟩=some y :=
 ⟨ap w _ _ 0 _ rfl,ap w _ _ 1 _ rfl⟩
def jO (r:ByteArray):Nat->ByteArray
 | 0=>⟨#[49]⟩
 | i+1=>cw (jO r i) r
def b_ (out:List ByteArray) (r:ByteArray):List ByteArray:=(List.range out.length).map fun i=>bE (am out i) (jO r i)
theorem nU (out:List ByteArray) (r:ByteArray) {i:Nat} (h:i<out.length):(b_ out r).take (i+1)=(b_ out r).take i++[bE (am out i) (jO r i)]:=by
 have hl:i<(b_ out r).length:=by simp[b_,h]
 rw[show (b_ out r).take (i+1)=(b_ out r).take i++[(b_ out r)[i]] from (AM hl).symm];simp[b_]
def dA (out:List ByteArray) (r:ByteArray):Bool:=(aK (b_ out r)).isSome
theorem yM (v:Value) (l:List ByteArray) (r:ByteArray) (w:World) (hl:IsS w v l) (hpos:0<l.length) (hlen:l.length<1000000) (hG:Gw w) :
  Calls Tryz.prog 46 #[v,.string r] w fun e w'=>e=.returned (.bool (dA l r))/\Below w.heap.size w w':=by
 obtain⟨p,c,rfl,-⟩:=id hl.form;have HL:=At hl;have HG:=At hG;clear hl hG;go_enter Tryz.func46,Tryz.ntmps46;go_wp2;go_loopw [5,6,11] (fun s5 s6 s11 wr=>∃ i:Nat,s5=.string (jO r i)/\s11=.int .i64 i/\i<=l.length/\bU wr w.heap.size s6 ((b_ l r).take i)/\Below w.heap.size w wr) (fun _ _ s11 _=>l.length-(intOf s11).toNat)
 case atStart=>exact⟨0,rfl,rfl,AI _,bU.nil _ _,Dv _ _⟩
 case round =>
  obtain⟨i,rfl,rfl,hin,hown,hbr⟩:=hrel;by_cases hi:i<l.length
  ·obtain⟨b,o,rfl,hbl,hcell⟩:=(HL.out.below hbr).get hi;rw[fc] at hcell;have HT:=At (nU l r hi);go_wp2_with fail
   refine (ej _ _ wr (HG.out.below hbr)).mono ?_;rintro e w1 ⟨rfl,hb1⟩;have hB1:=hbr.trans (hb1.mono hbr.size);have hw1:=hown.below hb1;have hbs:=hB1.size;have hzl:((b_ l r).take i).length<1000000000:=by simp;omega
   clear hb1 hbr hown hcell;go_wp2_with (at_builtin;refine aT 22 Tryz.underlying22 rfl (.tmp 15) (.tmp 19) rfl w.heap.size _ _ _ rfl hw1 rfl hzl hbs ?_)
   intro v' w2 hw2 hb2;have hB2:=hb2 _ _ hB1 (AA _);rw[<-HT.out] at hw2;clear hw1 hb2 hB1;go_wp2_with fail
   refine (dN _ _ w2 (HG.out.below hB2)).mono ?_;rintro e w3 ⟨rfl,hb3⟩;have hB3:=hB2.trans (hb3.mono hB2.size);have hw3:=hw2.below hb3;clear hb3 hB2 hw2;go_wp2;go_roundw;case rel=>exact⟨i+1,rfl,by go_num,by omega,hw3,hB3⟩
   case measure=>simp[intOf]<;>omega
  ·have hin':i=l.length:=by omega
   subst hin';have hlw:(b_ l r).length=l.length:=by simp[b_]
   rw[<-hlw,AX] at hown;have hs:=hown.isS;have HS:=At (ju _ _ wr hs (by omega) (by omega) (HG.out.below hbr));obtain⟨q,d,rfl,-⟩:=hs.form;clear hown hs hi hlw;go_wp2_with fail
   refine HS.out.mono ?_;rintro e w1 ⟨rfl,hb1⟩;go_wp2;go_ret;exact⟨rfl,hbr.trans (hb1.mono hbr.size)⟩
theorem xM (v:Value) (a b:List ByteArray) (w:World) (hF:IsF w v a b) (hG:Gx w) :
  Calls Tryz.prog 6 #[v] w fun e w'=>e=.returned (.tuple #[.bool (aq a b&&(aK b).isSome),.int .i64 (au a b)])/\Below w.heap.size w w':=by
 obtain⟨p,c,q,d,rfl,hfa,hfb⟩:=id hF.ex;go_enter Tryz.func6,Tryz.ntmps6;go_upto_region 1 with fail
 have cc:=ar w (.slice p a.length c) (.slice q b.length d);have m1:=ac w (.cells #[.slice p a.length c,.slice q b.length d] 24);have zz:=size_alloc w (.cells #[.slice p a.length c,.slice q b.length d] 24);generalize w.alloc (.cells #[.slice p a.length c,.slice q b.length d] 24)=w1 at *
 have HCK:=At (dC _ a b w1 (hF.below m1) (hG.below m1));have HA:=At (hfa.below m1);have HB:=At (hfb.below m1);have HG:=At (hG.below m1);have c0:=cc.1;have c1:=cc.2;have hlt:w.heap.size<w1.heap.size:=by omega
 have M1:=At m1;clear hfa hfb cc zz m1 hF hG;by_cases hck:aq a b=true
 ·have hce:au a b=0:=by unfold au;rw[if_pos hck]
  rw[hce] at HCK;obtain⟨ob1,ob7,oa1,oa7,oac,obc,ohd⟩:=aN hck;clear hce;go_wp2_with fail
  refine HCK.out.mono ?_;rintro e w2 ⟨rfl,hb2⟩;have d0:=aa hb2 hlt c0;have d1:=aa hb2 hlt c1;have HA2:=At (HA.out.below hb2);have HB2:=At (HB.out.below hb2);have HG2:=At (HG.out.below hb2);have M2:=At (M1.out.trans (hb2.mono M1.out.size));have hlt2:w.heap.size<w2.heap.size:=AD hlt hb2.size;clear c0 c1 HA HB HG HCK M1 hb2 hlt;have HS:=At (ju _ b w2 HB2.out ob1 (by omega) HG2.out.g);have HC:=At hck;clear hck oac obc ohd ob1 ob7 oa1 oa7;go_wp2_with fail
  refine HS.out.mono ?_;rintro e w3 ⟨rfl,hb3⟩;go_wp2;refine Du (v:=.tuple #[.bool (aK b).isSome,.int .i64 0]) (by simp[results,Tryz.results6,go_sem]) rfl ⟨by unfold au;rw[HC.out];rfl,M2.out.trans (hb3.mono M2.out.size)⟩
 ·have HC:=At (show aq a b=false by simpa using hck);have hce:au a b=30:=by unfold au;rw[if_neg hck]
  rw[hce] at HCK;clear hce;go_wp2_with fail
  refine HCK.out.mono ?_;rintro e w2 ⟨rfl,hb2⟩;go_wp2;refine Du (v:=.tuple #[.bool false,.int .i64 30]) (by simp[results,Tryz.results6,go_sem]) rfl ⟨by unfold au;rw[HC.out];rfl,M1.out.trans (hb2.mono M1.out.size)⟩
def zb (a b:List ByteArray) (w:World) (e:Ending) (w':World):Prop :=
 ∃ v err,e=.returned (.tuple #[v,.int .i64 err])/\((∃ pf,aq a b=true/\aK b=some pf/\err=0/\IsS w' v pf/\pf.length=b.length-1)\/(aq a b=true/\aK b=none/\err=31/\v=.slice none 0 0)\/(aq a b=false/\err=30/\v=.slice none 0 0))/\Below w.heap.size w w'
theorem uF (v:Value) (a b:List ByteArray) (w:World) (hF:IsF w v a b) (hG:Gx w) :
  Calls Tryz.prog 18 #[v] w (zb a b w):=by
 obtain⟨p,c,q,d,rfl,hfa,hfb⟩:=id hF.ex;go_enter Tryz.func18,Tryz.ntmps18;go_upto_region 1 with fail
 have cc:=ar w (.slice p a.length c) (.slice q b.length d);have m1:=ac w (.cells #[.slice p a.length c,.slice q b.length d] 24);have zz:=size_alloc w (.cells #[.slice p a.length c,.slice q b.length d] 24);generalize w.alloc (.cells #[.slice p a.length c,.slice q b.length d] 24)=w1 at *
 have HCK:=At (dC _ a b w1 (hF.below m1) (hG.below m1));have HA:=At (hfa.below m1);have HB:=At (hfb.below m1);have HG:=At (hG.below m1);have c0:=cc.1;have c1:=cc.2;have hlt:w.heap.size<w1.heap.size:=by omega
 have M1:=At m1;clear hfa hfb cc zz m1 hF hG;by_cases hck:aq a b=true
 ·have hce:au a b=0:=by unfold au;rw[if_pos hck]
  rw[hce] at HCK;obtain⟨ob1,ob7,oa1,oa7,oac,obc,ohd⟩:=aN hck;clear hce;go_wp2_with fail
  refine HCK.out.mono ?_;rintro e w2 ⟨rfl,hb2⟩;have d0:=aa hb2 hlt c0;have d1:=aa hb2 hlt c1;have HA2:=At (HA.out.below hb2);have HB2:=At (HB.out.below hb2);have HG2:=At (HG.out.below hb2);have M2:=At (M1.out.trans (hb2.mono M1.out.size));have hlt2:w.heap.size<w2.heap.size:=AD hlt hb2.size;clear c0 c1 HA HB HG HCK M1 hb2 hlt;have HS:=At (wC _ b w2 HB2.out ob1 (by omega) HG2.out.g);have HC:=At hck;clear hck oac obc ohd ob1 ob7 oa1 oa7;go_wp2_with fail
  refine HS.out.mono ?_;rintro e w3 ⟨v3,ok,rfl,hcase,hb3⟩;rcases hcase with ⟨pf,hq,rfl,hp,hpl⟩ | ⟨hq,rfl,rfl⟩
  ·have HQ:=At hq;have HPL:=At hpl;obtain⟨p1,c1',rfl,-⟩:=id hp.form;clear hq hpl;go_wp2;refine Du (v:=.tuple #[.slice p1 pf.length c1',.int .i64 0]) (by simp[results,Tryz.results18,go_sem]) rfl ⟨_,_,rfl,Or.inl ⟨pf,HC.out,HQ.out,rfl,hp,HPL.out⟩,M2.out.trans (hb3.mono M2.out.size)⟩
  ·have HQ:=At hq;clear hq;go_wp2;refine Du (v:=.tuple #[.slice none 0 0,.int .i64 31]) (by simp[results,Tryz.results18,go_sem]) rfl ⟨_,_,rfl,Or.inr (Or.inl ⟨HC.out,HQ.out,rfl,rfl⟩),M2.out.trans (hb3.mono M2.out.size)⟩
 ·have HC:=At (show aq a b=false by simpa using hck);have hce:au a b=30:=by unfold au;rw[if_neg hck]
  rw[hce] at HCK;clear hce;go_wp2_with fail
  refine HCK.out.mono ?_;rintro e w2 ⟨rfl,hb2⟩;go_wp2;refine Du (v:=.tuple #[.slice none 0 0,.int .i64 30]) (by simp[results,Tryz.results18,go_sem]) rfl ⟨_,_,rfl,Or.inr (Or.inr ⟨HC.out,rfl,rfl⟩),M1.out.trans (hb2.mono M1.out.size)⟩
open Go.RowKit Dg Dc
def tq (q:Rat):ByteArray:=txt (CQ.real q)
def okQ (q:Rat):Prop:=cV (CQ.real q)=false
theorem nA (q:Rat):okQ q↔cO (rt q)=false:=by
 unfold okQ cV CQ.real;have h0:cO (rt 0)=false:=by rw[dQ];exact il
 rw[h0,Bool.or_false]
theorem nB {q:Rat} (h1:q.num.natAbs<10 ^ 2000) (h2:q.den<10 ^ 2000):okQ q:=by
 rw[nA];unfold cO rt;have h3:=bW (k:=2000) (by decide) h1;have h4:=bW (k:=2000) (by decide) h2;simp only[BX,decide_eq_false_iff_not];omega
theorem eN {q:Rat} (h:okQ q):dX (tq q)=some (CQ.real q):=me h
theorem jM {q:Rat} (h:okQ q):b8 (CQ.real q)=(tq q,0):=by unfold b8;rw[if_neg (by rw[show cV (CQ.real q)=false from h];decide)];rfl
theorem pG (a b:Rat):(CQ.real a).add (CQ.real b)=CQ.real (a+b):=by show (⟨a+b,0+0⟩:CQ)=⟨a+b,0⟩;rw[Rat.add_zero]
theorem wK (a b:Rat):(CQ.real a).sub (CQ.real b)=CQ.real (a-b):=by show (⟨a-b,0-0⟩:CQ)=⟨a-b,0⟩;rw[show (0:Rat)-0=0 by grind]
theorem pH (a b:Rat):(CQ.real a).mul (CQ.real b)=CQ.real (a*b):=by unfold CQ.real CQ.mul;congr 1<;>grind
theorem wI (a b:Rat) (h:b≠0):(CQ.real a).div (CQ.real b)=CQ.real (a / b):=by unfold CQ.real CQ.div CQ.norm;congr 1<;>grind
theorem km {a b:Rat} (ha:okQ a) (hb:okQ b) (h:okQ (a+b)):eX (tq a) (tq b)=tq (a+b):=by
 unfold eX bM eh;rw[eN ha,eN hb];simp only[if_true];rw[pG,jM h]
theorem kB {a b:Rat} (ha:okQ a) (hb:okQ b) (h:okQ (a-b)):fj (tq a) (tq b)=tq (a-b):=by
 unfold fj bM eh;rw[eN ha,eN hb];simp only[if_true];rw[wK,jM h]
theorem el {a b:Rat} (ha:okQ a) (hb:okQ b) (h:okQ (a*b)):cw (tq a) (tq b)=tq (a*b):=by
 unfold cw bM eh;rw[eN ha,eN hb];simp only[if_true];rw[pH,jM h]
theorem hZ {a b:Rat} (ha:okQ a) (hb:okQ b) (hne:b≠0) (h:okQ (a / b)):bE (tq a) (tq b)=tq (a / b):=by
 unfold bE bM oG;rw[eN ha,eN hb];have hn:CQ.real b≠⟨0,0⟩:=fun e=>hne (congrArg CQ.re e);simp only[if_neg hn,if_true];rw[wI a b hne,jM h]
theorem rN {a b:Rat} (ha:okQ a) (hb:okQ b):jb (tq a) (tq b)=gy a b:=by
 unfold jb ir dj;simp only[allC,eN ha,eN hb,gg];simp[CQ.real]
theorem iR:tq 1=⟨#[49]⟩:=by
 unfold tq txt
 have e:cr (ct (CQ.real 1))=[49]:=by
  rw[bY (z:=ct (CQ.real 1)) (by show (rt 0).n=0;rw[dQ])]
  show aG ⟨false,1,1⟩=_
  unfold aG;rw[dec_lt (show 1<10 by decide)];rfl
 rw[e]
theorem yH:tq 0=⟨#[48]⟩:=by
 unfold tq txt
 have e:cr (ct (CQ.real 0))=[48]:=by
  rw[bY (z:=ct (CQ.real 0)) (by show (rt 0).n=0;rw[dQ])]
  show aG (rt 0)=_
  rw[dQ];unfold aG;rw[dec_lt (show 0<10 by decide)];rfl
 rw[e]
theorem rD:tq (-1)=⟨#[45,49]⟩:=by
 unfold tq txt
 have e:cr (ct (CQ.real (-1)))=[45,49]:=by
  rw[bY (z:=ct (CQ.real (-1))) (by show (rt 0).n=0;rw[dQ])]
  show aG ⟨true,1,1⟩=_
  unfold aG;rw[dec_lt (show 1<10 by decide)];rfl
 rw[e]
theorem zK (k:Nat) (h:k≠0):1<10 ^ k:=Nat.one_lt_pow h (by decide)
theorem ip:(1:Nat)<10 ^ 2000:=zK 2000 (by decide)
theorem et:okQ 1:=nB ip ip
theorem fE:okQ 0:=nB (Nat.lt_trans Nat.zero_lt_one ip) ip
theorem pz:okQ (-1):=nB ip ip
theorem qK {k:Rat} (h:okQ k):dx (tq k)=(decide (-1<k)&&decide (k<1)):=by
 unfold dx;rw[<-rD,<-iR,rN h pz,rN h et];unfold gy;by_cases h1:k=-1
 ·subst h1;decide
 ·by_cases h2:k < -1
  ·have h3:¬ (-1<k):=by grind
   simp[h1,h2,h3]
  ·have h3:-1<k:=by grind
   by_cases h4:k=1
   ·subst h4;simp[h1,h2]
   ·by_cases h5:k<1
    ·simp[h1,h2,h3,h4,h5]
    ·simp[h1,h2,h3,h4,h5]
theorem yt {s:ByteArray} (h:fL s.data.toList=true):∃ q,s=tq q/\okQ q:=by
 unfold fL at h
 cases hg:eM s.data.toList with
 | none=>rw[hg] at h;cases h
 | some z =>
  rw[hg] at h;obtain⟨q,rfl,-,-,h3,h4⟩:=fX hg;have him:q.im=0:=(aP _).1 (of_decide_eq_true h);have e:q=CQ.real q.re:=by cases q;simp only at him;subst him;rfl
  rw[e] at h3 h4;exact⟨q.re,h4.symm,h3⟩
theorem rO {s:ByteArray} (h:bN s.data.toList=true):∃ q,s=tq q/\okQ q:=by
 unfold bN at h;simp only[AV] at h;exact yt h.1
theorem qu7 {s:ByteArray} (h:bN s.data.toList=true):bE s ⟨#[49]⟩=s:=by
 obtain⟨q,rfl,hq⟩:=rO h;have e:q / 1=q:=by grind
 rw[<-iR,hZ hq et (by decide) (by rw[e];exact hq),e]
theorem vS:cw ⟨#[49]⟩ ⟨#[49]⟩=⟨#[49]⟩:=by
 have e:(1:Rat)*1=1:=by grind
 rw[<-iR,el et et (by rw[e];exact et),e]
def ofT (n:Nat):ByteArray:=(b8 (CQ.real (mkRat n 64))).1
theorem yh:ofT 64=⟨#[49]⟩:=by
 have e:mkRat ((64:Nat):Int) 64=1:=by decide +kernel
 unfold ofT;rw[e,jM et,iR]
theorem lw:∀ i,jO ⟨#[49]⟩ i=⟨#[49]⟩
 | 0=>rfl
 | i+1=>by unfold jO;rw[lw i,vS]
theorem qh {b:List ByteArray} (h:∀ s∈b,bN s.data.toList=true):b_ b ⟨#[49]⟩=b:=by
 refine List.ext_getElem (by simp[b_]) fun i h1 h2=>?_;simp only[b_,BS,List.getElem_range,lw];rw[<-fc h2,qu7 (h _ (AR h2))]
def xK (a b:List ByteArray) (w:World) (e:Ending) (w':World):Prop :=
  ∃ n err,e=.returned (.tuple #[.int .i64 n,.int .i64 err]) /\
    ((aq a b=true/\(aK b).isSome=true/\err=0/\∃ k:Nat,n=k/\1<=k/\k<=64/\dA b (ofT k)=true/\∀ m,1<=m->m<k->dA b (ofT m)=false) \/
     (aq a b=true/\(aK b).isSome=false/\err=31/\n=0)\/(aq a b=false/\err=30/\n=0))/\Below w.heap.size w w'
theorem xL (v:Value) (a b:List ByteArray) (w:World) (hF:IsF w v a b) (hG:Gx w) :
  Calls Tryz.prog 21 #[v] w (xK a b w):=by
 obtain⟨p,c,q,d,rfl,hfa,hfb⟩:=id hF.ex;go_enter Tryz.func21,Tryz.ntmps21;go_upto_region 1 with fail
 have cc:=ar w (.slice p a.length c) (.slice q b.length d);have m1:=ac w (.cells #[.slice p a.length c,.slice q b.length d] 24);have zz:=size_alloc w (.cells #[.slice p a.length c,.slice q b.length d] 24);generalize w.alloc (.cells #[.slice p a.length c,.slice q b.length d] 24)=w1 at *
 have HCK:=At (dC _ a b w1 (hF.below m1) (hG.below m1));have HA:=At (hfa.below m1);have HB:=At (hfb.below m1);have HG:=At (hG.below m1);have c0:=cc.1;have c1:=cc.2;have hlt:w.heap.size<w1.heap.size:=by omega
 have M1:=At m1;clear hfa hfb cc zz m1 hF hG;by_cases hck:aq a b=true
 ·have hce:au a b=0:=by unfold au;rw[if_pos hck]
  rw[hce] at HCK;obtain⟨ob1,ob7,oa1,oa7,oac,obc,ohd⟩:=aN hck;clear hce;go_wp2_with fail
  refine HCK.out.mono ?_;rintro e w2 ⟨rfl,hb2⟩;have d0:=aa hb2 hlt c0;have d1:=aa hb2 hlt c1;have HA2:=At (HA.out.below hb2);have HB2:=At (HB.out.below hb2);have HG2:=At (HG.out.below hb2);have M2:=At (M1.out.trans (hb2.mono M1.out.size));have hlt2:w.heap.size<w2.heap.size:=AD hlt hb2.size;clear c0 c1 HA HB HG HCK M1 hb2 hlt;have HS:=At (ju _ b w2 HB2.out ob1 (by omega) HG2.out.g);have HC:=At hck;have HOC:=At obc;have HOB:=At (And.intro ob1 ob7);clear hck oac obc ohd ob1 ob7 oa1 oa7;by_cases hst:(aK b).isSome=true
  ·rw[hst] at HS;have HST:=At hst;have HW1:=At (show dA b (ofT 64)=true by unfold dA;rw[yh,qh HOC.out];exact hst);clear hst;go_wp2_with fail
   refine HS.out.mono ?_;rintro e w3 ⟨rfl,hb3⟩;go_wp2;go_loopw [5] (fun s5 wr=>∃ n:Nat,s5=.int .i64 n/\1<=n/\n<=64/\Hid (∀ m,1<=m->m<n->dA b (ofT m)=false)/\Below w2.heap.size w2 wr) (fun s5 _=>64-(intOf s5).toNat)
   case atStart=>exact⟨1,rfl,AA _,by decide,fun m h1 h2=>by omega,hb3⟩
   case round =>
    clear hb3;obtain⟨n,rfl,hn1,hn2,hall,hbr⟩:=hrel;go_wp2_with fail
    have hof:=Ak (n:Int) 64 wr (by omega) (by omega) (by decide) (by decide) (HG2.out.below hbr).g;refine hof.mono ?_;clear hof;rintro e w4 ⟨rfl,hb4⟩;have hB4:=hbr.trans (hb4.mono hbr.size);have d1':=aa hB4 hlt2 d1;obtain⟨rr,hrr⟩:∃ r,r=ofT n:=⟨_,rfl⟩;rw[show (b8 (CQ.real (mkRat (n:Int) 64))).1=rr from hrr.symm];obtain⟨ww,hww⟩:∃ x,x=dA b rr:=⟨_,rfl⟩;have hwi:=yM _ b rr w4 (HB2.out.below hB4) HOB.out.1 (by have:=HOB.out.2;omega) (HG2.out.below hB4).g;rw[<-hww] at hwi;have HWI:=At hwi;have hwn:dA b (ofT n)=ww:=by rw[hww,hrr]
    have HWN:=At hwn;clear hwi hww hrr hb4 hbr hwn;go_wp2_with fail
    refine HWI.out.mono ?_;rintro e w5 ⟨rfl,hb5⟩;have hB5:=hB4.trans (hb5.mono hB4.size)
    cases ww with
    | true =>
     clear hb5;go_wp2;refine Du (v:=.tuple #[.int .i64 n,.int .i64 0]) (by simp[results,Tryz.results21,go_sem]) rfl ⟨_,_,rfl,Or.inl ⟨HC.out,HST.out,rfl,n,rfl,hn1,hn2,HWN.out,hall.out⟩,M2.out.trans (hB5.mono M2.out.size)⟩
    | false =>
     have hlt:n<64:=by
      rcases BK n 64 with h | h
      ·exact h
      ·have h64:n=64:=by omega
       have h1:=HWN.out;rw[h64,HW1.out] at h1
       cases h1
     have hall2:Hid (∀ m,1<=m->m<n+1->dA b (ofT m)=false):=fun m h1 h2=>by
      by_cases hm:m=n
      ·subst hm;exact HWN.out
      ·exact hall.out m h1 (by omega)
     clear hall hb5;go_wp2;go_roundw;case rel=>exact⟨n+1,by go_num,by omega,by omega,hall2,hB5⟩
     case measure=>simp[intOf]<;>omega
  ·have hst':(aK b).isSome=false:=by simpa using hst
   rw[hst'] at HS;have HST:=At hst';clear hst hst';go_wp2_with fail
   refine HS.out.mono ?_;rintro e w3 ⟨rfl,hb3⟩;go_wp2;refine Du (v:=.tuple #[.int .i64 0,.int .i64 31]) (by simp[results,Tryz.results21,go_sem]) rfl ⟨_,_,rfl,Or.inr (Or.inl ⟨HC.out,HST.out,rfl,rfl⟩),M2.out.trans (hb3.mono M2.out.size)⟩
 ·have HC:=At (show aq a b=false by simpa using hck);have hce:au a b=30:=by unfold au;rw[if_neg hck]
  rw[hce] at HCK;clear hce;go_wp2_with fail
  refine HCK.out.mono ?_;rintro e w2 ⟨rfl,hb2⟩;go_wp2;refine Du (v:=.tuple #[.int .i64 0,.int .i64 30]) (by simp[results,Tryz.results21,go_sem]) rfl ⟨_,_,rfl,Or.inr (Or.inr ⟨HC.out,rfl,rfl⟩),M1.out.trans (hb2.mono M1.out.size)⟩
def inT (a x:List ByteArray) (t:Nat):Nat->ByteArray
 | 0=>⟨#[48]⟩
 | k+1=>if k<=t then eX (inT a x t k) (cw (am a k) (am x (t-k))) else inT a x t k
def jp (b y:List ByteArray) (t:Nat) (n:ByteArray):Nat->ByteArray
 | 0=>n
 | k+1=>if 0<k/\k<=t then fj (jp b y t n k) (cw (am b k) (am y (t-k))) else jp b y t n k
def kA (a b x y:List ByteArray) (t:Nat):ByteArray:=jp b y t (inT a x t a.length) b.length
def bR (a b x:List ByteArray):Nat->List ByteArray
 | 0=>[]
 | t+1=>bR a b x t++[kA a b x (bR a b x t) t]
theorem fd (a b x:List ByteArray):∀ t,(bR a b x t).length=t
 | 0=>rfl
 | t+1=>by unfold bR;rw[AO,fd a b x t];rfl
theorem IsS.all {w:World}{p:Option Addr}{n c:Nat}{l:List ByteArray} (h:IsS w (.slice p n c) l) (h0:0<l.length):∃ b o,p=some ⟨b,o,none⟩/\b<w.heap.size/\∀ k,k<l.length->w.cell? ⟨b,o+k,none⟩=some (.string (am l k)):=by
 obtain⟨b,o,rfl,hlt,-⟩:=h.get h0;refine⟨b,o,rfl,hlt,fun k hk=>?_⟩;obtain⟨b',o',e,-,hc⟩:=h.get hk;obtain⟨rfl,rfl⟩:b=b'/\o=o':=by simpa using e
 rw[hc,fc]
theorem yj (v vx:Value) (a b x:List ByteArray) (w:World) (hF:IsF w v a b) (hx:IsS w vx x) (ha0:0<a.length) (hb0:0<b.length) (ha:a.length<1000) (hb:b.length<1000) (hxl:x.length<1000) (hG:Gw w) :
  Calls Tryz.prog 29 #[v,vx] w fun e w'=>∃ u,e=.returned u/\IsS w' u (bR a b x x.length)/\Below w.heap.size w w':=by
 obtain⟨p,c,q,d,rfl,hfa,hfb⟩:=id hF.ex;obtain⟨px,cx,rfl,-⟩:=id hx.form;go_enter Tryz.func29,Tryz.ntmps29;go_upto_region 1 with fail
 have cc:=ar w (.slice p a.length c) (.slice q b.length d);have m1:=ac w (.cells #[.slice p a.length c,.slice q b.length d] 24);have zz:=size_alloc w (.cells #[.slice p a.length c,.slice q b.length d] 24);generalize w.alloc (.cells #[.slice p a.length c,.slice q b.length d] 24)=w1 at *
 obtain⟨ba,oa,rfl,hba,ca⟩:=(hfa.below m1).all ha0;obtain⟨bb,ob,rfl,hbb,cb⟩:=(hfb.below m1).all hb0;have HA:=At ca;have HB:=At cb;have HX:=At (hx.below m1);have HG:=At (hG.below m1);have C0:=At cc.1;have C1:=At cc.2;have hlt:w.heap.size<w1.heap.size:=by omega
 have M1:=At m1;clear hfa hfb cc zz m1 hF hG hx ca cb;go_wp2;go_loopw [5,14] (fun s5 s14 wr=>∃ t:Nat,s14=.int .i64 t/\t<=x.length/\bU wr w1.heap.size s5 (bR a b x t)/\Below w1.heap.size w1 wr) (fun _ s14 _=>x.length-(intOf s14).toNat)
 case atStart=>exact⟨0,rfl,AI _,bU.nil _ _,Dv _ _⟩
 case round =>
  rename World=>wo;obtain⟨t,rfl,htn,hown,hbr⟩:=hrel;by_cases ht:t<x.length
  ·obtain⟨py,cy,rfl,-⟩:=id hown.isS.form;obtain⟨bx,ox,rfl,hbx,cx'⟩:=HX.out.all (by omega);have CX:=At cx';have d0:=aa hbr hlt C0.out;obtain⟨y,hy⟩:∃ y,y=bR a b x t:=⟨_,rfl⟩;have hyl:y.length=t:=by rw[hy,fd]
   have HY:=At hy;rw[<-hy] at hown |-;rw[hyl];have HYL:=At hyl;have HOWN:=At hown;have HBR:=At hbr;clear hy hyl hown cx' hbr;go_wp2;go_loopw [7,20] (fun s7 s20 wr2=>∃ k:Nat,s7=.string (inT a x t k)/\s20=.int .i64 k/\k<=a.length/\Below wo.heap.size wo wr2) (fun _ s20 _=>a.length-(intOf s20).toNat)
   case atStart=>exact⟨0,rfl,rfl,AI _,Dv _ _⟩
   case round =>
    clear d0;obtain⟨k,rfl,rfl,hkn,hbk⟩:=hrel;have hB1:=HBR.out.trans (hbk.mono HBR.out.size);by_cases hk:k<a.length
    ·have hc:=aa hB1 hba (HA.out k hk);by_cases hkt:k<=t
     ·have hdt:decide ((k:Int)<=(t:Int))=true:=by simp;omega
      have e1:(t:Int)-(k:Int)=((t-k:Nat):Int):=by omega
      have hx:=aa hB1 hbx (CX.out (t-k) (by omega));have HT:=At (show inT a x t (k+1)=eX (inT a x t k) (cw (am a k) (am x (t-k))) by show (if k<=t then _ else _)=_;rw[if_pos hkt]);have hlx:t-k<x.length:=by omega
      go_wp2_with fail
      refine (dN _ _ wr (HG.out.below hB1)).mono ?_;rintro e w3 ⟨rfl,hb3⟩;go_wp2_with fail
      refine (ji _ _ w3 ((HG.out.below hB1).below hb3)).mono ?_;rintro e w4 ⟨rfl,hb4⟩;have hB4:=hbk.trans ((hb3.trans (hb4.mono hb3.size)).mono hbk.size);clear hc hx hb3 hb4 hbk hB1;go_wp2;go_roundw;case rel=>exact⟨k+1,by rw[HT.out],by go_num,by omega,hB4⟩
      case measure=>simp[intOf]<;>omega
     ·have hdt:decide ((k:Int)<=(t:Int))=false:=by simp;omega
      have HT:=At (show inT a x t (k+1)=inT a x t k by show (if k<=t then _ else _)=_;rw[if_neg hkt]);go_wp2;go_roundw;case rel=>exact⟨k+1,by rw[HT.out],by go_num,by omega,hbk⟩
      case measure=>simp[intOf]<;>omega
    ·have hk':k=a.length:=by omega
     subst hk';rename World=>w5;obtain⟨n0,hn0⟩:∃ n,n=inT a x t a.length:=⟨_,rfl⟩;rw[<-hn0];have HN0:=At hn0;have d1:=aa hB1 hlt C1.out;clear hn0 hk;go_wp2;go_loopw [7,42] (fun s7 s42 wr2=>∃ k:Nat,s7=.string (jp b y t n0 k)/\s42=.int .i64 k/\k<=b.length/\Below wo.heap.size wo wr2) (fun _ s42 _=>b.length-(intOf s42).toNat)
     case atStart=>exact⟨0,rfl,rfl,AI _,hbk⟩
     case round =>
      clear d1 hbk hB1;obtain⟨k,rfl,rfl,hkn,hbk⟩:=hrel;have hB1:=HBR.out.trans (hbk.mono HBR.out.size);by_cases hk:k<b.length
      ·have hc:=aa hB1 hbb (HB.out k hk);by_cases hkt:0<k/\k<=t
       ·have hd0:decide ((0:Int)<(k:Int))=true:=by simp;omega
        have hdt:decide ((k:Int)<=(t:Int))=true:=by simp;omega
        have e1:(t:Int)-(k:Int)=((t-k:Nat):Int):=by omega
        have HT:=At (show jp b y t n0 (k+1)=fj (jp b y t n0 k) (cw (am b k) (am y (t-k))) by show (if 0<k/\k<=t then _ else _)=_;rw[if_pos hkt]);obtain⟨by',oy,rfl,hby,cy'⟩:=(HOWN.out.below hbk).isS.all (by rw[HYL.out];omega);have hy:=cy' (t-k) (by rw[HYL.out];omega);have hlx:t-k<t:=by omega
        clear cy';go_wp2_with fail
        refine (dN _ _ wr (HG.out.below hB1)).mono ?_;rintro e w3 ⟨rfl,hb3⟩;go_wp2_with fail
        refine (jk _ _ w3 ((HG.out.below hB1).below hb3)).mono ?_;rintro e w4 ⟨rfl,hb4⟩;have hB4:=hbk.trans ((hb3.trans (hb4.mono hb3.size)).mono hbk.size);clear hc hy hb3 hb4 hbk hB1;go_wp2;go_roundw;case rel=>exact⟨k+1,by rw[HT.out],by go_num,by omega,hB4⟩
        case measure=>simp[intOf]<;>omega
       ·have HT:=At (show jp b y t n0 (k+1)=jp b y t n0 k by show (if 0<k/\k<=t then _ else _)=_;rw[if_neg hkt]);by_cases hk0:0<k
        ·have hd0:decide ((0:Int)<(k:Int))=true:=by simp;omega
         have hdt:decide ((k:Int)<=(t:Int))=false:=by simp;omega
         go_wp2;go_roundw;case rel=>exact⟨k+1,by rw[HT.out],by go_num,by omega,hbk⟩
         case measure=>simp[intOf]<;>omega
        ·have hd0:decide ((0:Int)<(k:Int))=false:=by simp;omega
         go_wp2;go_roundw;case rel=>exact⟨k+1,by rw[HT.out],by go_num,by omega,hbk⟩
         case measure=>simp[intOf]<;>omega
      ·have hk':k=b.length:=by omega
       subst hk';have hs:jp b y t n0 b.length=kA a b x y t:=by rw[HN0.out];rfl
       rw[hs];have hw:bU wr w1.heap.size (.slice py t cy) y:=by have:=HOWN.out.below hbk;rwa [HYL.out] at this
       have hbs:=hB1.size;have hyl:y.length<1000000000:=by rw[HYL.out];omega
       have HS:=At (show bR a b x (t+1)=y++[kA a b x y t] by show bR a b x t++_=_;rw[<-HY.out]);clear hs hk;generalize Value.slice py t cy=v5 at hw |-;go_wp2_with (at_builtin;refine aT 22 Tryz.underlying22 rfl (.tmp 65) (.tmp 67) rfl w1.heap.size _ _ _ rfl hw rfl hyl hbs ?_)
       intro v' w6 hw6 hb6;have hB6:=hb6 _ _ hB1 (AA _);rw[<-HS.out] at hw6;clear hw hb6 hB1 hbk hyl;go_wp2;go_roundw;case rel=>exact⟨t+1,by go_num,by omega,hw6,hB6⟩
       case measure=>simp[intOf]<;>omega
  ·have ht':t=x.length:=by omega
   subst ht';have hs:=hown.isS;obtain⟨q1,d1,rfl,-⟩:=id hs.form;clear ht hown;go_wp2;go_ret;exact⟨_,rfl,hs,M1.out.trans (hbr.mono M1.out.size)⟩
def du (n:Nat):List ByteArray:=(List.range n).map fun i=>if i=0 then ⟨#[49]⟩ else ⟨#[48]⟩
theorem dw (n:Nat):(du n).length=n:=by simp[du]
theorem oY {n i:Nat} (h:i<(du n).length):(du n)[i]=if i=0 then ⟨#[49]⟩ else ⟨#[48]⟩:=by simp[du]
theorem vh {n i:Nat} (h:i<n) (h0:i≠0):(aX (du n) i).set i ⟨#[48]⟩=aX (du n) (i+1):=by
 have hl:i<(du n).length:=by rw[dw];exact h
 have:=fy (du n) hl;rw[oY hl,if_neg h0] at this;exact this
theorem ti {n:Nat} (h:0<n):((aX (du n) 0).set 0 ⟨#[48]⟩).set 0 ⟨#[49]⟩=aX (du n) 1:=by
 have hl:0<(du n).length:=by rw[dw];exact h
 have:=fy (du n) hl;rw[oY hl,if_pos rfl] at this;rw[List.set_set];exact this
def uB (e0:Int) (l:List ByteArray) (w:World) (e:Ending) (w':World):Prop :=
 ∃ v,e=.returned (.tuple #[v,.int .i64 e0])/\(e0=0->IsS w' v l)/\(e0≠0->v=.slice none 0 0)/\Below w.heap.size w w'
def gq (a b:List ByteArray) (n:Int):Int:=if aq a b=true then (if 0<=n/\n<=64 then 0 else 8) else 30
theorem lX (v:Value) (a b:List ByteArray) (n:Int) (w:World) (hF:IsF w v a b) (hG:Gx w) :
  Calls Tryz.prog 7 #[v,.int .i64 n] w (uB (gq a b n) (bR a b (du n.toNat) n.toNat) w):=by
 obtain⟨p,c,q,d,rfl,hfa,hfb⟩:=id hF.ex;go_enter Tryz.func7,Tryz.ntmps7;go_upto_region 1 with fail
 have cc:=ar w (.slice p a.length c) (.slice q b.length d);have m1:=ac w (.cells #[.slice p a.length c,.slice q b.length d] 24);have zz:=size_alloc w (.cells #[.slice p a.length c,.slice q b.length d] 24);generalize w.alloc (.cells #[.slice p a.length c,.slice q b.length d] 24)=w1 at *
 have HCK:=At (dC _ a b w1 (hF.below m1) (hG.below m1));have HA:=At (hfa.below m1);have HB:=At (hfb.below m1);have HG:=At (hG.below m1);have c0:=cc.1;have c1:=cc.2;have hlt:w.heap.size<w1.heap.size:=by omega
 have M1:=At m1;clear hfa hfb cc zz m1 hF hG;by_cases hck:aq a b=true
 ·have hce:au a b=0:=by unfold au;rw[if_pos hck]
  rw[hce] at HCK;obtain⟨ob1,ob7,oa1,oa7,oac,obc,ohd⟩:=aN hck;clear hce;go_wp2_with fail
  refine HCK.out.mono ?_;rintro e w2 ⟨rfl,hb2⟩;have d0:=aa hb2 hlt c0;have d1:=aa hb2 hlt c1;have HA2:=At (HA.out.below hb2);have HB2:=At (HB.out.below hb2);have HG2:=At (HG.out.below hb2);have M2:=At (M1.out.trans (hb2.mono M1.out.size));have hlt2:w.heap.size<w2.heap.size:=AD hlt hb2.size;clear c0 c1 HA HB HG HCK M1 hb2 hlt;have HC:=At hck;have HF2:=At (show IsF w2 (.agg #[.slice p a.length c,.slice q b.length d]) a b from⟨⟨p,c,q,d,rfl,HA2.out,HB2.out⟩⟩);have HLN:=At (And.intro oa1 (And.intro oa7 (And.intro ob1 ob7)));clear hck oac obc ohd ob1 ob7 oa1 oa7;by_cases hn0:n<0
  ·have hd:decide (n<0)=true:=decide_eq_true hn0;have he:gq a b n=8:=by unfold gq;rw[if_pos HC.out,if_neg (by omega)]
   have HE:=At he;clear he;go_wp2;refine Du (v:=.tuple #[.slice none 0 0,.int .i64 8]) (by simp[results,Tryz.results7,go_sem]) rfl ⟨_,by rw[HE.out],(fun h=>by rw[HE.out] at h;cases h),(fun _=>rfl),M2.out⟩
  ·have hd:decide (n<0)=false:=decide_eq_false hn0;by_cases hn1:64<n
   ·have hd1:decide (64<n)=true:=decide_eq_true hn1;have he:gq a b n=8:=by unfold gq;rw[if_pos HC.out,if_neg (by omega)]
    have HE:=At he;clear he;go_wp2;refine Du (v:=.tuple #[.slice none 0 0,.int .i64 8]) (by simp[results,Tryz.results7,go_sem]) rfl ⟨_,by rw[HE.out],(fun h=>by rw[HE.out] at h;cases h),(fun _=>rfl),M2.out⟩
   ·have hd1:decide (64<n)=false:=decide_eq_false hn1;have he:gq a b n=0:=by unfold gq;rw[if_pos HC.out,if_pos (by omega)]
    have HE:=At he;obtain⟨m,rfl⟩:∃ m:Nat,n=m:=⟨n.toNat,by omega⟩;have hm64:m<=64:=by omega
    clear he hn0 hn1;rw[Db];go_wp2_with (at_make;refine bI 22 Tryz.underlying22 rfl (.tmp 20) (.tmp 20) rfl _ _ m rfl rfl rfl rfl (by omega) ?_)
    intro w3 hrow hb3 hs3;have hB3:=hb3 _ _ (Dv _ _) (AA _);have hr3:bV w3 w2.heap.size m (aX (du m) 0):=by rw[eL,dw];exact hrow
    have hdr:=fun (_:Unit)=>hd;clear hrow hb3 hs3 hdr;go_wp2;go_loopw [24] (fun s24 wr=>∃ i:Nat,s24=.int .i64 i/\i<=m/\bV wr w2.heap.size m (aX (du m) i)/\Below w2.heap.size w2 wr) (fun s24 _=>m-(intOf s24).toNat)
    case atStart=>exact⟨0,rfl,AI _,hr3,hB3⟩
    case round =>
     clear hr3 hB3;obtain⟨i,rfl,him,hr,hbr⟩:=hrel;by_cases hi:i<m
     ·have hl:i<(aX (du m) i).length:=by rw[fx _ (by rw[dw];omega),dw];exact hi
      have rc:=hr.cell hl;have rf:=hr.free i;have s1:=hr.set i ⟨#[48]⟩;have hb1:=hbr.setCell (p:=⟨w2.heap.size,i,none⟩) (AA _) (.string ⟨#[48]⟩);by_cases h0:i=0
      ·subst h0;have s2:=s1.set 0 ⟨#[49]⟩;rw[ti hi] at s2;have hb2:=hb1.setCell (p:=⟨w2.heap.size,0,none⟩) (AA _) (.string ⟨#[49]⟩);have rc2:=s1.cell (j:=0) (by simpa using hl);have rf2:=s1.free 0;clear s1 hb1;go_wp2;go_roundw;case rel=>exact⟨1,by go_num,by omega,s2,hb2⟩
       case measure=>simp[intOf]<;>omega
      ·have hz:((i:Int) == 0)=false:=by simp;omega
       rw[vh hi h0] at s1;go_wp2;go_roundw;case rel=>exact⟨i+1,by go_num,by omega,s1,hb1⟩
       case measure=>simp[intOf]<;>omega
     ·have him':i=m:=by omega
      subst him';have hfull:aX (du i) i=du i:=by have:=eK (du i);rwa [dw] at this
      rw[hfull] at hr;have hX:=hr.isS;rw[dw] at hX;have HO:=At (yj _ _ a b (du i) wr (HF2.out.below hbr) hX HLN.out.1 HLN.out.2.2.1 (by have:=HLN.out.2.1;omega) (by have:=HLN.out.2.2.2;omega) (by rw[dw];omega) (HG2.out.below hbr).g);rw[dw] at HO;have d0':=aa hbr hlt2 d0;have d1':=aa hbr hlt2 d1;clear hfull hr hX d0 d1 hi;go_wp2_with fail
      refine HO.out.mono ?_;rintro e w5 ⟨u,rfl,hu,hb5⟩;obtain⟨pu,cu,rfl,-⟩:=id hu.form;go_wp2;refine Du (v:=.tuple #[.slice pu _ cu,.int .i64 0]) (by simp[results,Tryz.results7,go_sem];rfl) rfl ⟨_,by rw[HE.out],(fun _=>hu),(fun h=>absurd HE.out h),M2.out.trans ((hbr.trans (hb5.mono hbr.size)).mono M2.out.size)⟩
 ·have HC:=At (show gq a b n=30 by unfold gq;rw[if_neg hck]);have hce:au a b=30:=by unfold au;rw[if_neg hck]
  rw[hce] at HCK;clear hce;go_wp2_with fail
  refine HCK.out.mono ?_;rintro e w2 ⟨rfl,hb2⟩;go_wp2;refine Du (v:=.tuple #[.slice none 0 0,.int .i64 30]) (by simp[results,Tryz.results7,go_sem]) rfl ⟨_,by rw[HC.out],(fun h=>by rw[HC.out] at h;cases h),(fun _=>rfl),M1.out.trans (hb2.mono M1.out.size)⟩
end Go.Proofs.YtgakllaobooabaaGreatDoor
