/- Lemmas of this claim. -/
import Derived.Test.YtbnkpcfjechfiaaGreatDoorQCoef
import Derived.Test.YtbnkpcfjechfiaaGreatDoorQNC7
import Derived.Test.YtbnkpcfjechfiaaGreatDoorQNC8
set_option linter.all false
set_option maxRecDepth 100000
set_option maxHeartbeats 8000000
namespace Go.Proofs.YtbnkpcfjechfiaaGreatDoor
open Go.RowKit Dg
theorem k8 (v:Value) (l:List ByteArray) (w:World) (hl:IsS w v l) (hpos:0<l.length) (hlen:l.length<1000000) (hG:Gw w) :
  Calls Tryz.prog 36 #[v] w fun e w'=>e=.returned (.bool (bV l).isSome)∧Below w.heap.size w w':=by
 have HP:=E5 (A5 v l w hl hpos hlen hG);obtain⟨p,c,rfl,-⟩:=hl.form;go_enter Tryz.func36,Tryz.ntmps36;go_wp2_with fail
 refine HP.out.mono ?_;rintro e w1 ⟨v1,ok,rfl,hcase,hb1⟩;rcases hcase with ⟨pf,hq,rfl,hp,-⟩ | ⟨hq,rfl,rfl⟩
 ·have HQ:=E5 hq;obtain⟨p1,c1,rfl,-⟩:=hp.form;clear hq hp;go_wp2;go_ret;exact⟨by rw[HQ.out];rfl,hb1⟩
 ·have HQ:=E5 hq;clear hq;go_wp2;go_ret;exact⟨by rw[HQ.out];rfl,hb1⟩
structure IsF (w:World) (v:Value) (a b:List ByteArray):Prop where
 ex:∃ p c q d,v=.agg #[.slice p a.length c,.slice q b.length d]∧IsS w (.slice p a.length c) a∧IsS w (.slice q b.length d) b
theorem IsF.below {w w':World}{v:Value}{a b:List ByteArray} (h:IsF w v a b) (hb:Below w.heap.size w w'):IsF w' v a b:=by
 obtain⟨p,c,q,d,e,h1,h2⟩:=h.ex;exact⟨p,c,q,d,e,h1.below hb,h2.below hb⟩
theorem IsS.words {w:World}{p:Option Addr}{n c:Nat}{l:List ByteArray} (h:IsS w (.slice p n c) l):fw w p l:=by
 refine⟨fun hl=>?_⟩;obtain⟨b,o,rfl,hlt,-⟩:=h.get hl;refine⟨b,o,rfl,hlt,fun i hi=>?_⟩;obtain⟨b',o',e,-,hc⟩:=h.get hi;obtain⟨rfl,rfl⟩:b=b'∧o=o':=by simpa using e
 exact hc
def ay (a b:List ByteArray):Int:=if az a b=true then 0 else 30
theorem eU (v:Value) (a b:List ByteArray) (w:World) (h:IsF w v a b) (hG:Gx w) :
  Calls Tryz.prog 30 #[v] w fun e w'=>e=.returned (.int .i64 (ay a b))∧Below w.heap.size w w':=by
 obtain⟨p,c,q,d,rfl,h1,h2⟩:=h.ex;refine (DL p q c d a b w h1.words h2.words hG).mono ?_;rintro e w' ⟨n,rfl,hn,hb⟩;refine⟨?_,hb⟩;rcases hn with ⟨rfl,hc⟩ | ⟨rfl,hc⟩
 ·unfold ay;rw[hc.out];rfl
 ·unfold ay;rw[hc.out];rfl
theorem aM {a b:List ByteArray} (h:az a b=true):1≤b.length∧b.length≤7∧1≤a.length∧a.length≤7∧(∀ s∈a,bu s.data.toList=true)∧(∀ s∈b,bu s.data.toList=true)∧jg b=some [49]:=by
 unfold az eR at h;simp only[Fy,decide_eq_true_eq,FH] at h;exact⟨h.1.2.1.1,h.1.2.1.2,h.1.1.1.1,h.1.1.1.2,h.1.1.2,h.1.2.2,h.2⟩
theorem aE (w:World) (x y:Value):(w.alloc (.cells #[x,y] 24)).cell? ⟨w.heap.size,0,none⟩=some x∧(w.alloc (.cells #[x,y] 24)).cell? ⟨w.heap.size,1,none⟩=some y :=
 ⟨aA w _ _ 0 _ rfl,aA w _ _ 1 _ rfl⟩
def lG (r:ByteArray):Nat→ByteArray
 | 0=>⟨#[49]⟩
 | i+1=>dz (lG r i) r
def dt (out:List ByteArray) (r:ByteArray):List ByteArray:=(List.range out.length).map fun i=>cX (aH out i) (lG r i)
theorem rF (out:List ByteArray) (r:ByteArray) {i:Nat} (h:i<out.length):(dt out r).take (i+1)=(dt out r).take i++[cX (aH out i) (lG r i)]:=by
 have hl:i<(dt out r).length:=by simp[dt,h]
 rw[show (dt out r).take (i+1)=(dt out r).take i++[(dt out r)[i]] from (Fm hl).symm];simp[dt]
def eQ (out:List ByteArray) (r:ByteArray):Bool:=(bV (dt out r)).isSome
theorem Df (v:Value) (l:List ByteArray) (r:ByteArray) (w:World) (hl:IsS w v l) (hpos:0<l.length) (hlen:l.length<1000000) (hG:Gw w) :
  Calls Tryz.prog 101 #[v,.string r] w fun e w'=>e=.returned (.bool (eQ l r))∧Below w.heap.size w w':=by
 obtain⟨p,c,rfl,-⟩:=id hl.form;have HL:=E5 hl;have HG:=E5 hG;clear hl hG;go_enter Tryz.func101,Tryz.ntmps101;go_wp2;go_loopw [5,6,11] (fun s5 s6 s11 wr=>∃ i:Nat,s5=.string (lG r i)∧s11=.int .i64 i∧i≤l.length∧bE wr w.heap.size s6 ((dt l r).take i)∧Below w.heap.size w wr) (fun _ _ s11 _=>l.length-(intOf s11).toNat)
 case atStart=>exact⟨0,rfl,rfl,Fk _,bE.nil _ _,Below.refl _ _⟩
 case round =>
  obtain⟨i,rfl,rfl,hin,hown,hbr⟩:=hrel;by_cases hi:i<l.length
  ·obtain⟨b,o,rfl,hbl,hcell⟩:=(HL.out.below hbr).get hi;rw[eK] at hcell;have HT:=E5 (rF l r hi);go_wp2_with fail
   refine (fG _ _ wr (HG.out.below hbr)).mono ?_;rintro e w1 ⟨rfl,hb1⟩;have hB1:=hbr.trans (hb1.mono hbr.size);have hw1:=hown.below hb1;have hbs:=hB1.size;have hzl:((dt l r).take i).length<1000000000:=by simp;omega
   clear hb1 hbr hown hcell;go_wp2_with (at_builtin;refine aX 22 Tryz.underlying22 rfl (.tmp 15) (.tmp 19) rfl w.heap.size _ _ _ rfl hw1 rfl hzl hbs ?_)
   intro v' w2 hw2 hb2;have hB2:=hb2 _ _ hB1 (Fb _);rw[←HT.out] at hw2;clear hw1 hb2 hB1;go_wp2_with fail
   refine (eH _ _ w2 (HG.out.below hB2)).mono ?_;rintro e w3 ⟨rfl,hb3⟩;have hB3:=hB2.trans (hb3.mono hB2.size);have hw3:=hw2.below hb3;clear hb3 hB2 hw2;go_wp2;go_roundw;case rel=>exact⟨i+1,rfl,by go_num,by omega,hw3,hB3⟩
   case measure=>(first | (simp[intOf];done) | (simp[intOf];omega))
  ·have hin':i=l.length:=by omega
   subst hin';have hlw:(dt l r).length=l.length:=by simp[dt]
   rw[←hlw,FD] at hown;have hs:=hown.isS;have HS:=E5 (k8 _ _ wr hs (by omega) (by omega) (HG.out.below hbr));obtain⟨q,d,rfl,-⟩:=hs.form;clear hown hs hi hlw;go_wp2_with fail
   refine HS.out.mono ?_;rintro e w1 ⟨rfl,hb1⟩;go_wp2;go_ret;exact⟨rfl,hbr.trans (hb1.mono hbr.size)⟩
theorem E4 (v:Value) (a b:List ByteArray) (w:World) (hF:IsF w v a b) (hG:Gx w) :
  Calls Tryz.prog 7 #[v] w fun e w'=>e=.returned (.tuple #[.bool (az a b&&(bV b).isSome),.int .i64 (ay a b)])∧Below w.heap.size w w':=by
 obtain⟨p,c,q,d,rfl,hfa,hfb⟩:=id hF.ex;go_enter Tryz.func7,Tryz.ntmps7;go_upto_region 1 with fail
 have cc:=aE w (.slice p a.length c) (.slice q b.length d);have m1:=ak w (.cells #[.slice p a.length c,.slice q b.length d] 24);have zz:=size_alloc w (.cells #[.slice p a.length c,.slice q b.length d] 24);generalize w.alloc (.cells #[.slice p a.length c,.slice q b.length d] 24)=w1 at *
 have HCK:=E5 (eU _ a b w1 (hF.below m1) (hG.below m1));have HA:=E5 (hfa.below m1);have HB:=E5 (hfb.below m1);have HG:=E5 (hG.below m1);have c0:=cc.1;have c1:=cc.2;have hlt:w.heap.size<w1.heap.size:=by omega
 have M1:=E5 m1;clear hfa hfb cc zz m1 hF hG;by_cases hck:az a b=true
 ·have hce:ay a b=0:=by unfold ay;rw[if_pos hck]
  rw[hce] at HCK;obtain⟨ob1,ob7,oa1,oa7,oac,obc,ohd⟩:=aM hck;clear hce;go_wp2_with fail
  refine HCK.out.mono ?_;rintro e w2 ⟨rfl,hb2⟩;have d0:=af hb2 hlt c0;have d1:=af hb2 hlt c1;have HA2:=E5 (HA.out.below hb2);have HB2:=E5 (HB.out.below hb2);have HG2:=E5 (HG.out.below hb2);have M2:=E5 (M1.out.trans (hb2.mono M1.out.size));have hlt2:w.heap.size<w2.heap.size:=Fe hlt hb2.size;clear c0 c1 HA HB HG HCK M1 hb2 hlt;have HS:=E5 (k8 _ b w2 HB2.out ob1 (by omega) HG2.out.g);have HC:=E5 hck;clear hck oac obc ohd ob1 ob7 oa1 oa7;go_wp2_with fail
  refine HS.out.mono ?_;rintro e w3 ⟨rfl,hb3⟩;go_wp2;refine bodyPost_ret (v:=.tuple #[.bool (bV b).isSome,.int .i64 0]) (by simp[results,Tryz.results7,go_sem]) rfl ⟨by unfold ay;rw[HC.out];rfl,M2.out.trans (hb3.mono M2.out.size)⟩
 ·have HC:=E5 (show az a b=false by simpa using hck);have hce:ay a b=30:=by unfold ay;rw[if_neg hck]
  rw[hce] at HCK;clear hce;go_wp2_with fail
  refine HCK.out.mono ?_;rintro e w2 ⟨rfl,hb2⟩;go_wp2;refine bodyPost_ret (v:=.tuple #[.bool false,.int .i64 30]) (by simp[results,Tryz.results7,go_sem]) rfl ⟨by unfold ay;rw[HC.out];rfl,M1.out.trans (hb2.mono M1.out.size)⟩
def DE (a b:List ByteArray) (w:World) (e:Ending) (w':World):Prop :=
 ∃ v err,e=.returned (.tuple #[v,.int .i64 err])∧((∃ pf,az a b=true∧bV b=some pf∧err=0∧IsS w' v pf∧pf.length=b.length-1)∨(az a b=true∧bV b=none∧err=31∧v=.slice none 0 0)∨(az a b=false∧err=30∧v=.slice none 0 0))∧Below w.heap.size w w'
theorem zu (v:Value) (a b:List ByteArray) (w:World) (hF:IsF w v a b) (hG:Gx w) :
  Calls Tryz.prog 9 #[v] w (DE a b w):=by
 obtain⟨p,c,q,d,rfl,hfa,hfb⟩:=id hF.ex;go_enter Tryz.func9,Tryz.ntmps9;go_upto_region 1 with fail
 have cc:=aE w (.slice p a.length c) (.slice q b.length d);have m1:=ak w (.cells #[.slice p a.length c,.slice q b.length d] 24);have zz:=size_alloc w (.cells #[.slice p a.length c,.slice q b.length d] 24);generalize w.alloc (.cells #[.slice p a.length c,.slice q b.length d] 24)=w1 at *
 have HCK:=E5 (eU _ a b w1 (hF.below m1) (hG.below m1));have HA:=E5 (hfa.below m1);have HB:=E5 (hfb.below m1);have HG:=E5 (hG.below m1);have c0:=cc.1;have c1:=cc.2;have hlt:w.heap.size<w1.heap.size:=by omega
 have M1:=E5 m1;clear hfa hfb cc zz m1 hF hG;by_cases hck:az a b=true
 ·have hce:ay a b=0:=by unfold ay;rw[if_pos hck]
  rw[hce] at HCK;obtain⟨ob1,ob7,oa1,oa7,oac,obc,ohd⟩:=aM hck;clear hce;go_wp2_with fail
  refine HCK.out.mono ?_;rintro e w2 ⟨rfl,hb2⟩;have d0:=af hb2 hlt c0;have d1:=af hb2 hlt c1;have HA2:=E5 (HA.out.below hb2);have HB2:=E5 (HB.out.below hb2);have HG2:=E5 (HG.out.below hb2);have M2:=E5 (M1.out.trans (hb2.mono M1.out.size));have hlt2:w.heap.size<w2.heap.size:=Fe hlt hb2.size;clear c0 c1 HA HB HG HCK M1 hb2 hlt;have HS:=E5 (A5 _ b w2 HB2.out ob1 (by omega) HG2.out.g);have HC:=E5 hck;clear hck oac obc ohd ob1 ob7 oa1 oa7;go_wp2_with fail
  refine HS.out.mono ?_;rintro e w3 ⟨v3,ok,rfl,hcase,hb3⟩;rcases hcase with ⟨pf,hq,rfl,hp,hpl⟩ | ⟨hq,rfl,rfl⟩
  ·have HQ:=E5 hq;have HPL:=E5 hpl;obtain⟨p1,c1',rfl,-⟩:=id hp.form;clear hq hpl;go_wp2;refine bodyPost_ret (v:=.tuple #[.slice p1 pf.length c1',.int .i64 0]) (by simp[results,Tryz.results9,go_sem]) rfl ⟨_,_,rfl,Or.inl ⟨pf,HC.out,HQ.out,rfl,hp,HPL.out⟩,M2.out.trans (hb3.mono M2.out.size)⟩
  ·have HQ:=E5 hq;clear hq;go_wp2;refine bodyPost_ret (v:=.tuple #[.slice none 0 0,.int .i64 31]) (by simp[results,Tryz.results9,go_sem]) rfl ⟨_,_,rfl,Or.inr (Or.inl ⟨HC.out,HQ.out,rfl,rfl⟩),M2.out.trans (hb3.mono M2.out.size)⟩
 ·have HC:=E5 (show az a b=false by simpa using hck);have hce:ay a b=30:=by unfold ay;rw[if_neg hck]
  rw[hce] at HCK;clear hce;go_wp2_with fail
  refine HCK.out.mono ?_;rintro e w2 ⟨rfl,hb2⟩;go_wp2;refine bodyPost_ret (v:=.tuple #[.slice none 0 0,.int .i64 30]) (by simp[results,Tryz.results9,go_sem]) rfl ⟨_,_,rfl,Or.inr (Or.inr ⟨HC.out,rfl,rfl⟩),M1.out.trans (hb2.mono M1.out.size)⟩
open Go.RowKit Dg Dc
def tq (q:Rat):ByteArray:=txt (CQ.real q)
def okQ (q:Rat):Prop:=eC (CQ.real q)=false
theorem kO (q:Rat):okQ q↔cL (rt q)=false:=by
 unfold okQ eC CQ.real;have h0:cL (rt 0)=false:=by rw[dK];exact jQ
 rw[h0,Bool.or_false]
theorem qU {q:Rat} (h1:q.num.natAbs<10 ^ 2000) (h2:q.den<10 ^ 2000):okQ q:=by
 rw[kO];unfold cL rt;have h3:=bv (k:=2000) (by decide) h1;have h4:=bv (k:=2000) (by decide) h2;simp only[GH,decide_eq_false_iff_not];omega
theorem Ee {q:Rat} (h:okQ q):q.num.natAbs<10 ^ 2000∧q.den<10 ^ 2000:=by
 have:=ue ((kO q).1 h) (dJ q);exact⟨this.n,this.d⟩
theorem lm {q:Rat} (h:okQ q):fE (tq q)=some (CQ.real q):=pj h
theorem q_ {q:Rat} (h:okQ q):dN (CQ.real q)=(tq q,0):=by unfold dN;rw[if_neg (by rw[show eC (CQ.real q)=false from h];decide)];rfl
theorem Be (a b:Rat):(CQ.real a).add (CQ.real b)=CQ.real (a+b):=by show (⟨a+b,0+0⟩:CQ)=⟨a+b,0⟩;rw[Rat.add_zero]
theorem Bg (a b:Rat):(CQ.real a).mul (CQ.real b)=CQ.real (a*b):=by unfold CQ.real CQ.mul;congr 1<;>grind
theorem Bf (a b:Rat) (h:b≠0):(CQ.real a).div (CQ.real b)=CQ.real (a / b):=by unfold CQ.real CQ.div CQ.norm;congr 1<;>grind
theorem Cf {a b:Rat} (ha:okQ a) (hb:okQ b) (h:okQ (a+b)):gT (tq a) (tq b)=tq (a+b):=by
 unfold gT c_ gn;rw[lm ha,lm hb];simp only[if_true];rw[Be,q_ h]
theorem wF {a b:Rat} (ha:okQ a) (hb:okQ b) (h:okQ (a*b)):dz (tq a) (tq b)=tq (a*b):=by
 unfold dz c_ gn;rw[lm ha,lm hb];simp only[if_true];rw[Bg,q_ h]
theorem vU {a b:Rat} (ha:okQ a) (hb:okQ b) (hne:b≠0) (h:okQ (a / b)):cX (tq a) (tq b)=tq (a / b):=by
 unfold cX c_ sr;rw[lm ha,lm hb];have hn:CQ.real b≠⟨0,0⟩:=fun e=>hne (congrArg CQ.re e);simp only[if_neg hn,if_true];rw[Bf a b hne,q_ h]
theorem rC:tq 1=⟨#[49]⟩:=by
 unfold tq txt
 have e:bL (ct (CQ.real 1))=[49]:=by
  rw[dD (z:=ct (CQ.real 1)) (by show (rt 0).n=0;rw[dK])]
  show aK ⟨false,1,1⟩=_
  unfold aK;rw[dW (show 1<10 by decide)];rfl
 rw[e]
theorem Ef (k:Nat) (h:k≠0):1<10 ^ k:=Nat.one_lt_pow h (by decide)
theorem mK:(1:Nat)<10 ^ 2000:=Ef 2000 (by decide)
theorem kP:okQ 1:=qU mK mK
theorem AS:okQ 0:=qU (Nat.lt_trans Nat.zero_lt_one mK) mK
theorem CU {s:ByteArray} (h:gH s.data.toList=true):∃ q,s=tq q∧okQ q:=by
 unfold gH at h
 cases hg:f_ s.data.toList with
 | none=>rw[hg] at h;cases h
 | some z =>
  rw[hg] at h;obtain⟨q,rfl,-,-,h3,h4⟩:=iC hg;have him:q.im=0:=(bg _).1 (of_decide_eq_true h);have e:q=CQ.real q.re:=by cases q;simp only at him;subst him;rfl
  rw[e] at h3 h4;exact⟨q.re,h4.symm,h3⟩
theorem vT {s:ByteArray} (h:bu s.data.toList=true):∃ q,s=tq q∧okQ q:=by
 unfold bu at h;simp only[Fy] at h;exact CU h.1
theorem z8 {s:ByteArray} (h:bu s.data.toList=true):cX s ⟨#[49]⟩=s:=by
 obtain⟨q,rfl,hq⟩:=vT h;have e:q / 1=q:=by grind
 rw[←rC,vU hq kP (by decide) (by rw[e];exact hq),e]
theorem AN:dz ⟨#[49]⟩ ⟨#[49]⟩=⟨#[49]⟩:=by
 have e:(1:Rat)*1=1:=by grind
 rw[←rC,wF kP kP (by rw[e];exact kP),e]
def ofT (n:Nat):ByteArray:=(dN (CQ.real (mkRat n 64))).1
theorem CK:ofT 64=⟨#[49]⟩:=by
 have e:mkRat ((64:Nat):Int) 64=1:=by decide +kernel
 unfold ofT;rw[e,q_ kP,rC]
theorem n7:∀ i,lG ⟨#[49]⟩ i=⟨#[49]⟩
 | 0=>rfl
 | i+1=>by unfold lG;rw[n7 i,AN]
theorem tW {b:List ByteArray} (h:∀ s∈b,bu s.data.toList=true):dt b ⟨#[49]⟩=b:=by
 refine IA (by simp[dt]) fun i h1 h2=>?_;simp only[dt,Gb,Iq,n7];rw[←eK h2,z8 (h _ (Fu h2))]
def Cb (a b:List ByteArray) (w:World) (e:Ending) (w':World):Prop :=
  ∃ n err,e=.returned (.tuple #[.int .i64 n,.int .i64 err]) ∧
    ((az a b=true∧(bV b).isSome=true∧err=0∧∃ k:Nat,n=k∧1≤k∧k≤64∧eQ b (ofT k)=true∧∀ m,1≤m→m<k→eQ b (ofT m)=false) ∨
     (az a b=true∧(bV b).isSome=false∧err=31∧n=0)∨(az a b=false∧err=30∧n=0))∧Below w.heap.size w w'
theorem Cc (v:Value) (a b:List ByteArray) (w:World) (hF:IsF w v a b) (hG:Gx w) :
  Calls Tryz.prog 46 #[v] w (Cb a b w):=by
 obtain⟨p,c,q,d,rfl,hfa,hfb⟩:=id hF.ex;go_enter Tryz.func46,Tryz.ntmps46;go_upto_region 1 with fail
 have cc:=aE w (.slice p a.length c) (.slice q b.length d);have m1:=ak w (.cells #[.slice p a.length c,.slice q b.length d] 24);have zz:=size_alloc w (.cells #[.slice p a.length c,.slice q b.length d] 24);generalize w.alloc (.cells #[.slice p a.length c,.slice q b.length d] 24)=w1 at *
 have HCK:=E5 (eU _ a b w1 (hF.below m1) (hG.below m1));have HA:=E5 (hfa.below m1);have HB:=E5 (hfb.below m1);have HG:=E5 (hG.below m1);have c0:=cc.1;have c1:=cc.2;have hlt:w.heap.size<w1.heap.size:=by omega
 have M1:=E5 m1;clear hfa hfb cc zz m1 hF hG;by_cases hck:az a b=true
 ·have hce:ay a b=0:=by unfold ay;rw[if_pos hck]
  rw[hce] at HCK;obtain⟨ob1,ob7,oa1,oa7,oac,obc,ohd⟩:=aM hck;clear hce;go_wp2_with fail
  refine HCK.out.mono ?_;rintro e w2 ⟨rfl,hb2⟩;have d0:=af hb2 hlt c0;have d1:=af hb2 hlt c1;have HA2:=E5 (HA.out.below hb2);have HB2:=E5 (HB.out.below hb2);have HG2:=E5 (HG.out.below hb2);have M2:=E5 (M1.out.trans (hb2.mono M1.out.size));have hlt2:w.heap.size<w2.heap.size:=Fe hlt hb2.size;clear c0 c1 HA HB HG HCK M1 hb2 hlt;have HS:=E5 (k8 _ b w2 HB2.out ob1 (by omega) HG2.out.g);have HC:=E5 hck;have HOC:=E5 obc;have HOB:=E5 (And.intro ob1 ob7);clear hck oac obc ohd ob1 ob7 oa1 oa7;by_cases hst:(bV b).isSome=true
  ·rw[hst] at HS;have HST:=E5 hst;have HW1:=E5 (show eQ b (ofT 64)=true by unfold eQ;rw[CK,tW HOC.out];exact hst);clear hst;go_wp2_with fail
   refine HS.out.mono ?_;rintro e w3 ⟨rfl,hb3⟩;go_wp2;go_loopw [5] (fun s5 wr=>∃ n:Nat,s5=.int .i64 n∧1≤n∧n≤64∧Hid (∀ m,1≤m→m<n→eQ b (ofT m)=false)∧Below w2.heap.size w2 wr) (fun s5 _=>64-(intOf s5).toNat)
   case atStart=>exact⟨1,rfl,Fb _,by decide,fun m h1 h2=>by omega,hb3⟩
   case round =>
    clear hb3;obtain⟨n,rfl,hn1,hn2,hall,hbr⟩:=hrel;go_wp2_with fail
    have hof:=EU (n:Int) 64 wr (by omega) (by omega) (by decide) (by decide) (HG2.out.below hbr).g;refine hof.mono ?_;clear hof;rintro e w4 ⟨rfl,hb4⟩;have hB4:=hbr.trans (hb4.mono hbr.size);have d1':=af hB4 hlt2 d1;obtain⟨rr,hrr⟩:∃ r,r=ofT n:=⟨_,rfl⟩;rw[show (dN (CQ.real (mkRat (n:Int) 64))).1=rr from hrr.symm];obtain⟨ww,hww⟩:∃ x,x=eQ b rr:=⟨_,rfl⟩;have hwi:=Df _ b rr w4 (HB2.out.below hB4) HOB.out.1 (by have:=HOB.out.2;omega) (HG2.out.below hB4).g;rw[←hww] at hwi;have HWI:=E5 hwi;have hwn:eQ b (ofT n)=ww:=by rw[hww,hrr]
    have HWN:=E5 hwn;clear hwi hww hrr hb4 hbr hwn;go_wp2_with fail
    refine HWI.out.mono ?_;rintro e w5 ⟨rfl,hb5⟩;have hB5:=hB4.trans (hb5.mono hB4.size)
    cases ww with
    | true =>
     clear hb5;go_wp2;refine bodyPost_ret (v:=.tuple #[.int .i64 n,.int .i64 0]) (by simp[results,Tryz.results46,go_sem]) rfl ⟨_,_,rfl,Or.inl ⟨HC.out,HST.out,rfl,n,rfl,hn1,hn2,HWN.out,hall.out⟩,M2.out.trans (hB5.mono M2.out.size)⟩
    | false =>
     have hlt:n<64:=by
      rcases Gj n 64 with h | h
      ·exact h
      ·have h64:n=64:=by omega
       have h1:=HWN.out;rw[h64,HW1.out] at h1
       cases h1
     have hall2:Hid (∀ m,1≤m→m<n+1→eQ b (ofT m)=false):=fun m h1 h2=>by
      by_cases hm:m=n
      ·subst hm;exact HWN.out
      ·exact hall.out m h1 (by omega)
     clear hall hb5;go_wp2;go_roundw;case rel=>exact⟨n+1,by go_num,by omega,by omega,hall2,hB5⟩
     case measure=>(first | (simp[intOf];done) | (simp[intOf];omega))
  ·have hst':(bV b).isSome=false:=by simpa using hst
   rw[hst'] at HS;have HST:=E5 hst';clear hst hst';go_wp2_with fail
   refine HS.out.mono ?_;rintro e w3 ⟨rfl,hb3⟩;go_wp2;refine bodyPost_ret (v:=.tuple #[.int .i64 0,.int .i64 31]) (by simp[results,Tryz.results46,go_sem]) rfl ⟨_,_,rfl,Or.inr (Or.inl ⟨HC.out,HST.out,rfl,rfl⟩),M2.out.trans (hb3.mono M2.out.size)⟩
 ·have HC:=E5 (show az a b=false by simpa using hck);have hce:ay a b=30:=by unfold ay;rw[if_neg hck]
  rw[hce] at HCK;clear hce;go_wp2_with fail
  refine HCK.out.mono ?_;rintro e w2 ⟨rfl,hb2⟩;go_wp2;refine bodyPost_ret (v:=.tuple #[.int .i64 0,.int .i64 30]) (by simp[results,Tryz.results46,go_sem]) rfl ⟨_,_,rfl,Or.inr (Or.inr ⟨HC.out,rfl,rfl⟩),M1.out.trans (hb2.mono M1.out.size)⟩
def inT (a x:List ByteArray) (t:Nat):Nat→ByteArray
 | 0=>⟨#[48]⟩
 | k+1=>if k≤t then gT (inT a x t k) (dz (aH a k) (aH x (t-k))) else inT a x t k
def qW (b y:List ByteArray) (t:Nat) (n:ByteArray):Nat→ByteArray
 | 0=>n
 | k+1=>if 0<k∧k≤t then jv (qW b y t n k) (dz (aH b k) (aH y (t-k))) else qW b y t n k
def rj (a b x y:List ByteArray) (t:Nat):ByteArray:=qW b y t (inT a x t a.length) b.length
def eL (a b x:List ByteArray):Nat→List ByteArray
 | 0=>[]
 | t+1=>eL a b x t++[rj a b x (eL a b x t) t]
theorem lX (a b x:List ByteArray):∀ t,(eL a b x t).length=t
 | 0=>rfl
 | t+1=>by unfold eL;rw[Fl,lX a b x t];rfl
theorem IsS.all {w:World}{p:Option Addr}{n c:Nat}{l:List ByteArray} (h:IsS w (.slice p n c) l) (h0:0<l.length):∃ b o,p=some ⟨b,o,none⟩∧b<w.heap.size∧∀ k,k<l.length→w.cell? ⟨b,o+k,none⟩=some (.string (aH l k)):=by
 obtain⟨b,o,rfl,hlt,-⟩:=h.get h0;refine⟨b,o,rfl,hlt,fun k hk=>?_⟩;obtain⟨b',o',e,-,hc⟩:=h.get hk;obtain⟨rfl,rfl⟩:b=b'∧o=o':=by simpa using e
 rw[hc,eK]
theorem CN (v vx:Value) (a b x:List ByteArray) (w:World) (hF:IsF w v a b) (hx:IsS w vx x) (ha0:0<a.length) (hb0:0<b.length) (ha:a.length<1000) (hb:b.length<1000) (hxl:x.length<1000) (hG:Gw w) :
  Calls Tryz.prog 53 #[v,vx] w fun e w'=>∃ u,e=.returned u∧IsS w' u (eL a b x x.length)∧Below w.heap.size w w':=by
 obtain⟨p,c,q,d,rfl,hfa,hfb⟩:=id hF.ex;obtain⟨px,cx,rfl,-⟩:=id hx.form;go_enter Tryz.func53,Tryz.ntmps53;go_upto_region 1 with fail
 have cc:=aE w (.slice p a.length c) (.slice q b.length d);have m1:=ak w (.cells #[.slice p a.length c,.slice q b.length d] 24);have zz:=size_alloc w (.cells #[.slice p a.length c,.slice q b.length d] 24);generalize w.alloc (.cells #[.slice p a.length c,.slice q b.length d] 24)=w1 at *
 obtain⟨ba,oa,rfl,hba,ca⟩:=(hfa.below m1).all ha0;obtain⟨bb,ob,rfl,hbb,cb⟩:=(hfb.below m1).all hb0;have HA:=E5 ca;have HB:=E5 cb;have HX:=E5 (hx.below m1);have HG:=E5 (hG.below m1);have C0:=E5 cc.1;have C1:=E5 cc.2;have hlt:w.heap.size<w1.heap.size:=by omega
 have M1:=E5 m1;clear hfa hfb cc zz m1 hF hG hx ca cb;go_wp2;go_loopw [5,14] (fun s5 s14 wr=>∃ t:Nat,s14=.int .i64 t∧t≤x.length∧bE wr w1.heap.size s5 (eL a b x t)∧Below w1.heap.size w1 wr) (fun _ s14 _=>x.length-(intOf s14).toNat)
 case atStart=>exact⟨0,rfl,Fk _,bE.nil _ _,Below.refl _ _⟩
 case round =>
  rename World=>wo;obtain⟨t,rfl,htn,hown,hbr⟩:=hrel;by_cases ht:t<x.length
  ·obtain⟨py,cy,rfl,-⟩:=id hown.isS.form;obtain⟨bx,ox,rfl,hbx,cx'⟩:=HX.out.all (by omega);have CX:=E5 cx';have d0:=af hbr hlt C0.out;obtain⟨y,hy⟩:∃ y,y=eL a b x t:=⟨_,rfl⟩;have hyl:y.length=t:=by rw[hy,lX]
   have HY:=E5 hy;rw[←hy] at hown ⊢;rw[hyl];have HYL:=E5 hyl;have HOWN:=E5 hown;have HBR:=E5 hbr;clear hy hyl hown cx' hbr;go_wp2;go_loopw [7,20] (fun s7 s20 wr2=>∃ k:Nat,s7=.string (inT a x t k)∧s20=.int .i64 k∧k≤a.length∧Below wo.heap.size wo wr2) (fun _ s20 _=>a.length-(intOf s20).toNat)
   case atStart=>exact⟨0,rfl,rfl,Fk _,Below.refl _ _⟩
   case round =>
    clear d0;obtain⟨k,rfl,rfl,hkn,hbk⟩:=hrel;have hB1:=HBR.out.trans (hbk.mono HBR.out.size);by_cases hk:k<a.length
    ·have hc:=af hB1 hba (HA.out k hk);by_cases hkt:k≤t
     ·have hdt:decide ((k:Int)≤(t:Int))=true:=by simp;omega
      have e1:(t:Int)-(k:Int)=((t-k:Nat):Int):=by omega
      have hx:=af hB1 hbx (CX.out (t-k) (by omega));have HT:=E5 (show inT a x t (k+1)=gT (inT a x t k) (dz (aH a k) (aH x (t-k))) by show (if k≤t then _ else _)=_;rw[if_pos hkt]);have hlx:t-k<x.length:=by omega
      go_wp2_with fail
      refine (eH _ _ wr (HG.out.below hB1)).mono ?_;rintro e w3 ⟨rfl,hb3⟩;go_wp2_with fail
      refine (kJ _ _ w3 ((HG.out.below hB1).below hb3)).mono ?_;rintro e w4 ⟨rfl,hb4⟩;have hB4:=hbk.trans ((hb3.trans (hb4.mono hb3.size)).mono hbk.size);clear hc hx hb3 hb4 hbk hB1;go_wp2;go_roundw;case rel=>exact⟨k+1,by rw[HT.out],by go_num,by omega,hB4⟩
      case measure=>(first | (simp[intOf];done) | (simp[intOf];omega))
     ·have hdt:decide ((k:Int)≤(t:Int))=false:=by simp;omega
      have HT:=E5 (show inT a x t (k+1)=inT a x t k by show (if k≤t then _ else _)=_;rw[if_neg hkt]);go_wp2;go_roundw;case rel=>exact⟨k+1,by rw[HT.out],by go_num,by omega,hbk⟩
      case measure=>(first | (simp[intOf];done) | (simp[intOf];omega))
    ·have hk':k=a.length:=by omega
     subst hk';rename World=>w5;obtain⟨n0,hn0⟩:∃ n,n=inT a x t a.length:=⟨_,rfl⟩;rw[←hn0];have HN0:=E5 hn0;have d1:=af hB1 hlt C1.out;clear hn0 hk;go_wp2;go_loopw [7,42] (fun s7 s42 wr2=>∃ k:Nat,s7=.string (qW b y t n0 k)∧s42=.int .i64 k∧k≤b.length∧Below wo.heap.size wo wr2) (fun _ s42 _=>b.length-(intOf s42).toNat)
     case atStart=>exact⟨0,rfl,rfl,Fk _,hbk⟩
     case round =>
      clear d1 hbk hB1;obtain⟨k,rfl,rfl,hkn,hbk⟩:=hrel;have hB1:=HBR.out.trans (hbk.mono HBR.out.size);by_cases hk:k<b.length
      ·have hc:=af hB1 hbb (HB.out k hk);by_cases hkt:0<k∧k≤t
       ·have hd0:decide ((0:Int)<(k:Int))=true:=by simp;omega
        have hdt:decide ((k:Int)≤(t:Int))=true:=by simp;omega
        have e1:(t:Int)-(k:Int)=((t-k:Nat):Int):=by omega
        have HT:=E5 (show qW b y t n0 (k+1)=jv (qW b y t n0 k) (dz (aH b k) (aH y (t-k))) by show (if 0<k∧k≤t then _ else _)=_;rw[if_pos hkt]);obtain⟨by',oy,rfl,hby,cy'⟩:=(HOWN.out.below hbk).isS.all (by rw[HYL.out];omega);have hy:=cy' (t-k) (by rw[HYL.out];omega);have hlx:t-k<t:=by omega
        clear cy';go_wp2_with fail
        refine (eH _ _ wr (HG.out.below hB1)).mono ?_;rintro e w3 ⟨rfl,hb3⟩;go_wp2_with fail
        refine (kK _ _ w3 ((HG.out.below hB1).below hb3)).mono ?_;rintro e w4 ⟨rfl,hb4⟩;have hB4:=hbk.trans ((hb3.trans (hb4.mono hb3.size)).mono hbk.size);clear hc hy hb3 hb4 hbk hB1;go_wp2;go_roundw;case rel=>exact⟨k+1,by rw[HT.out],by go_num,by omega,hB4⟩
        case measure=>(first | (simp[intOf];done) | (simp[intOf];omega))
       ·have HT:=E5 (show qW b y t n0 (k+1)=qW b y t n0 k by show (if 0<k∧k≤t then _ else _)=_;rw[if_neg hkt]);by_cases hk0:0<k
        ·have hd0:decide ((0:Int)<(k:Int))=true:=by simp;omega
         have hdt:decide ((k:Int)≤(t:Int))=false:=by simp;omega
         go_wp2;go_roundw;case rel=>exact⟨k+1,by rw[HT.out],by go_num,by omega,hbk⟩
         case measure=>(first | (simp[intOf];done) | (simp[intOf];omega))
        ·have hd0:decide ((0:Int)<(k:Int))=false:=by simp;omega
         go_wp2;go_roundw;case rel=>exact⟨k+1,by rw[HT.out],by go_num,by omega,hbk⟩
         case measure=>(first | (simp[intOf];done) | (simp[intOf];omega))
      ·have hk':k=b.length:=by omega
       subst hk';have hs:qW b y t n0 b.length=rj a b x y t:=by rw[HN0.out];rfl
       rw[hs];have hw:bE wr w1.heap.size (.slice py t cy) y:=by have:=HOWN.out.below hbk;rwa [HYL.out] at this
       have hbs:=hB1.size;have hyl:y.length<1000000000:=by rw[HYL.out];omega
       have HS:=E5 (show eL a b x (t+1)=y++[rj a b x y t] by show eL a b x t++_=_;rw[←HY.out]);clear hs hk;generalize Value.slice py t cy=v5 at hw ⊢;go_wp2_with (at_builtin;refine aX 22 Tryz.underlying22 rfl (.tmp 65) (.tmp 67) rfl w1.heap.size _ _ _ rfl hw rfl hyl hbs ?_)
       intro v' w6 hw6 hb6;have hB6:=hb6 _ _ hB1 (Fb _);rw[←HS.out] at hw6;clear hw hb6 hB1 hbk hyl;go_wp2;go_roundw;case rel=>exact⟨t+1,by go_num,by omega,hw6,hB6⟩
       case measure=>(first | (simp[intOf];done) | (simp[intOf];omega))
  ·have ht':t=x.length:=by omega
   subst ht';have hs:=hown.isS;obtain⟨q1,d1,rfl,-⟩:=id hs.form;clear ht hown;go_wp2;go_ret;exact⟨_,rfl,hs,M1.out.trans (hbr.mono M1.out.size)⟩
def gw (n:Nat):List ByteArray:=(List.range n).map fun i=>if i=0 then ⟨#[49]⟩ else ⟨#[48]⟩
theorem eF (n:Nat):(gw n).length=n:=by simp[gw]
theorem sJ {n i:Nat} (h:i<(gw n).length):(gw n)[i]=if i=0 then ⟨#[49]⟩ else ⟨#[48]⟩:=by simp[gw]
theorem Ag {n i:Nat} (h:i<n) (h0:i≠0):(bJ (gw n) i).set i ⟨#[48]⟩=bJ (gw n) (i+1):=by
 have hl:i<(gw n).length:=by rw[eF];exact h
 have:=g9 (gw n) hl;rw[sJ hl,if_neg h0] at this;exact this
theorem xV {n:Nat} (h:0<n):((bJ (gw n) 0).set 0 ⟨#[48]⟩).set 0 ⟨#[49]⟩=bJ (gw n) 1:=by
 have hl:0<(gw n).length:=by rw[eF];exact h
 have:=g9 (gw n) hl;rw[sJ hl,if_pos rfl] at this;rw[List.set_set];exact this
def zo (e0:Int) (l:List ByteArray) (w:World) (e:Ending) (w':World):Prop :=
 ∃ v,e=.returned (.tuple #[v,.int .i64 e0])∧(e0=0→IsS w' v l)∧(e0≠0→v=.slice none 0 0)∧Below w.heap.size w w'
def j4 (a b:List ByteArray) (n:Int):Int:=if az a b=true then (if 0≤n∧n≤64 then 0 else 8) else 30
theorem xv (v:Value) (a b:List ByteArray) (n:Int) (w:World) (hF:IsF w v a b) (hG:Gx w) :
  Calls Tryz.prog 17 #[v,.int .i64 n] w (zo (j4 a b n) (eL a b (gw n.toNat) n.toNat) w):=by
 obtain⟨p,c,q,d,rfl,hfa,hfb⟩:=id hF.ex;go_enter Tryz.func17,Tryz.ntmps17;go_upto_region 1 with fail
 have cc:=aE w (.slice p a.length c) (.slice q b.length d);have m1:=ak w (.cells #[.slice p a.length c,.slice q b.length d] 24);have zz:=size_alloc w (.cells #[.slice p a.length c,.slice q b.length d] 24);generalize w.alloc (.cells #[.slice p a.length c,.slice q b.length d] 24)=w1 at *
 have HCK:=E5 (eU _ a b w1 (hF.below m1) (hG.below m1));have HA:=E5 (hfa.below m1);have HB:=E5 (hfb.below m1);have HG:=E5 (hG.below m1);have c0:=cc.1;have c1:=cc.2;have hlt:w.heap.size<w1.heap.size:=by omega
 have M1:=E5 m1;clear hfa hfb cc zz m1 hF hG;by_cases hck:az a b=true
 ·have hce:ay a b=0:=by unfold ay;rw[if_pos hck]
  rw[hce] at HCK;obtain⟨ob1,ob7,oa1,oa7,oac,obc,ohd⟩:=aM hck;clear hce;go_wp2_with fail
  refine HCK.out.mono ?_;rintro e w2 ⟨rfl,hb2⟩;have d0:=af hb2 hlt c0;have d1:=af hb2 hlt c1;have HA2:=E5 (HA.out.below hb2);have HB2:=E5 (HB.out.below hb2);have HG2:=E5 (HG.out.below hb2);have M2:=E5 (M1.out.trans (hb2.mono M1.out.size));have hlt2:w.heap.size<w2.heap.size:=Fe hlt hb2.size;clear c0 c1 HA HB HG HCK M1 hb2 hlt;have HC:=E5 hck;have HF2:=E5 (show IsF w2 (.agg #[.slice p a.length c,.slice q b.length d]) a b from⟨⟨p,c,q,d,rfl,HA2.out,HB2.out⟩⟩);have HLN:=E5 (And.intro oa1 (And.intro oa7 (And.intro ob1 ob7)));clear hck oac obc ohd ob1 ob7 oa1 oa7;by_cases hn0:n<0
  ·have hd:decide (n<0)=true:=decide_eq_true hn0;have he:j4 a b n=8:=by unfold j4;rw[if_pos HC.out,if_neg (by omega)]
   have HE:=E5 he;clear he;go_wp2;refine bodyPost_ret (v:=.tuple #[.slice none 0 0,.int .i64 8]) (by simp[results,Tryz.results17,go_sem]) rfl ⟨_,by rw[HE.out],(fun h=>by rw[HE.out] at h;cases h),(fun _=>rfl),M2.out⟩
  ·have hd:decide (n<0)=false:=decide_eq_false hn0;by_cases hn1:64<n
   ·have hd1:decide (64<n)=true:=decide_eq_true hn1;have he:j4 a b n=8:=by unfold j4;rw[if_pos HC.out,if_neg (by omega)]
    have HE:=E5 he;clear he;go_wp2;refine bodyPost_ret (v:=.tuple #[.slice none 0 0,.int .i64 8]) (by simp[results,Tryz.results17,go_sem]) rfl ⟨_,by rw[HE.out],(fun h=>by rw[HE.out] at h;cases h),(fun _=>rfl),M2.out⟩
   ·have hd1:decide (64<n)=false:=decide_eq_false hn1;have he:j4 a b n=0:=by unfold j4;rw[if_pos HC.out,if_pos (by omega)]
    have HE:=E5 he;obtain⟨m,rfl⟩:∃ m:Nat,n=m:=⟨n.toNat,by omega⟩;have hm64:m≤64:=by omega
    clear he hn0 hn1;rw[G7];go_wp2_with (at_make;refine cK 22 Tryz.underlying22 rfl (.tmp 20) (.tmp 20) rfl _ _ m rfl rfl rfl rfl (by omega) ?_)
    intro w3 hrow hb3 hs3;have hB3:=hb3 _ _ (Below.refl _ _) (Fb _);have hr3:df w3 w2.heap.size m (bJ (gw m) 0):=by rw[f9,eF];exact hrow
    have hdr:=fun (_:Unit)=>hd;clear hrow hb3 hs3 hdr;go_wp2;go_loopw [24] (fun s24 wr=>∃ i:Nat,s24=.int .i64 i∧i≤m∧df wr w2.heap.size m (bJ (gw m) i)∧Below w2.heap.size w2 wr) (fun s24 _=>m-(intOf s24).toNat)
    case atStart=>exact⟨0,rfl,Fk _,hr3,hB3⟩
    case round =>
     clear hr3 hB3;obtain⟨i,rfl,him,hr,hbr⟩:=hrel;by_cases hi:i<m
     ·have hl:i<(bJ (gw m) i).length:=by rw[gZ _ (by rw[eF];omega),eF];exact hi
      have rc:=hr.cell hl;have rf:=hr.free i;have s1:=hr.set i ⟨#[48]⟩;have hb1:=hbr.setCell (p:=⟨w2.heap.size,i,none⟩) (Fb _) (.string ⟨#[48]⟩);by_cases h0:i=0
      ·subst h0;have s2:=s1.set 0 ⟨#[49]⟩;rw[xV hi] at s2;have hb2:=hb1.setCell (p:=⟨w2.heap.size,0,none⟩) (Fb _) (.string ⟨#[49]⟩);have rc2:=s1.cell (j:=0) (by simpa using hl);have rf2:=s1.free 0;clear s1 hb1;go_wp2;go_roundw;case rel=>exact⟨1,by go_num,by omega,s2,hb2⟩
       case measure=>(first | (simp[intOf];done) | (simp[intOf];omega))
      ·have hz:((i:Int) == 0)=false:=by simp;omega
       rw[Ag hi h0] at s1;go_wp2;go_roundw;case rel=>exact⟨i+1,by go_num,by omega,s1,hb1⟩
       case measure=>(first | (simp[intOf];done) | (simp[intOf];omega))
     ·have him':i=m:=by omega
      subst him';have hfull:bJ (gw i) i=gw i:=by have:=fZ (gw i);rwa [eF] at this
      rw[hfull] at hr;have hX:=hr.isS;rw[eF] at hX;have HO:=E5 (CN _ _ a b (gw i) wr (HF2.out.below hbr) hX HLN.out.1 HLN.out.2.2.1 (by have:=HLN.out.2.1;omega) (by have:=HLN.out.2.2.2;omega) (by rw[eF];omega) (HG2.out.below hbr).g);rw[eF] at HO;have d0':=af hbr hlt2 d0;have d1':=af hbr hlt2 d1;clear hfull hr hX d0 d1 hi;go_wp2_with fail
      refine HO.out.mono ?_;rintro e w5 ⟨u,rfl,hu,hb5⟩;obtain⟨pu,cu,rfl,-⟩:=id hu.form;go_wp2;refine bodyPost_ret (v:=.tuple #[.slice pu _ cu,.int .i64 0]) (by simp[results,Tryz.results17,go_sem];rfl) rfl ⟨_,by rw[HE.out],(fun _=>hu),(fun h=>absurd HE.out h),M2.out.trans ((hbr.trans (hb5.mono hbr.size)).mono M2.out.size)⟩
 ·have HC:=E5 (show j4 a b n=30 by unfold j4;rw[if_neg hck]);have hce:ay a b=30:=by unfold ay;rw[if_neg hck]
  rw[hce] at HCK;clear hce;go_wp2_with fail
  refine HCK.out.mono ?_;rintro e w2 ⟨rfl,hb2⟩;go_wp2;refine bodyPost_ret (v:=.tuple #[.slice none 0 0,.int .i64 30]) (by simp[results,Tryz.results17,go_sem]) rfl ⟨_,by rw[HC.out],(fun h=>by rw[HC.out] at h;cases h),(fun _=>rfl),M1.out.trans (hb2.mono M1.out.size)⟩
def b_ (x:List ByteArray):Bool:=x.all fun s=>bu s.data.toList
theorem uu {x:List ByteArray}{i:Nat} (h:i<x.length):b_ (x.take (i+1))=(b_ (x.take i)&&bu (aH x i).data.toList):=by
 unfold b_;rw[iZ h,eK]
theorem xG {x:List ByteArray}{i:Nat} (h:i<x.length) (hf:bu (aH x i).data.toList=false):b_ x=false:=by
 unfold b_;exact mU h _ (by rw[eK];exact hf)
end Go.Proofs.YtbnkpcfjechfiaaGreatDoor
