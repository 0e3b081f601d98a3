/- Lemmas of this claim. -/
import Derived.Test.YtbnkpcfjechfiaaGreatDoorYCoef
import Derived.Test.YtbnkpcfjechfiaaGreatDoorYNC7
set_option linter.all false
set_option maxRecDepth 100000
set_option maxHeartbeats 8000000
namespace Go.Proofs.YtbnkpcfjechfiaaGreatDoor
open Go.RowKit Dg
theorem lw (v:Value) (l:List ByteArray) (w:World) (hl:IsS w v l) (hpos:0<l.length) (hlen:l.length<1000000) (hG:Gw w) :
  Calls Tryz.prog 36 #[v] w fun e w'=>e=.returned (.bool (b_ l).isSome)∧Below w.heap.size w w':=by
 have HP:=Fi (Bp v l w hl hpos hlen hG);obtain⟨p,c,rfl,-⟩:=hl.form;go_enter Tryz.func36,Tryz.ntmps36;go_wp2_with fail
 refine HP.out.mono ?_;rintro e w1 ⟨v1,ok,rfl,hcase,hb1⟩;rcases hcase with ⟨pf,hq,rfl,hp,-⟩ | ⟨hq,rfl,rfl⟩
 ·have HQ:=Fi hq;obtain⟨p1,c1,rfl,-⟩:=hp.form;clear hq hp;go_wp2;go_ret;exact⟨by rw[HQ.out];rfl,hb1⟩
 ·have HQ:=Fi hq;clear hq;go_wp2;go_ret;exact⟨by rw[HQ.out];rfl,hb1⟩
structure IsF (w:World) (v:Value) (a b:List ByteArray):Prop where
 ex:∃ p c q d,v=.agg #[.slice p a.length c,.slice q b.length d]∧IsS w (.slice p a.length c) a∧IsS w (.slice q b.length d) b
theorem IsF.below {w w':World}{v:Value}{a b:List ByteArray} (h:IsF w v a b) (hb:Below w.heap.size w w'):IsF w' v a b:=by
 obtain⟨p,c,q,d,e,h1,h2⟩:=h.ex;exact⟨p,c,q,d,e,h1.below hb,h2.below hb⟩
theorem IsS.words {w:World}{p:Option Addr}{n c:Nat}{l:List ByteArray} (h:IsS w (.slice p n c) l):fF w p l:=by
 refine⟨fun hl=>?_⟩;obtain⟨b,o,rfl,hlt,-⟩:=h.get hl;refine⟨b,o,rfl,hlt,fun i hi=>?_⟩;obtain⟨b',o',e,-,hc⟩:=h.get hi;obtain⟨rfl,rfl⟩:b=b'∧o=o':=by simpa using e
 exact hc
def aB (a b:List ByteArray):Int:=if aC a b=true then 0 else 30
theorem eH (v:Value) (a b:List ByteArray) (w:World) (h:IsF w v a b) (hG:Gx w) :
  Calls Tryz.prog 30 #[v] w fun e w'=>e=.returned (.int .i64 (aB a b))∧Below w.heap.size w w':=by
 obtain⟨p,c,q,d,rfl,h1,h2⟩:=h.ex;refine (D7 p q c d a b w h1.words h2.words hG).mono ?_;rintro e w' ⟨n,rfl,hn,hb⟩;refine⟨?_,hb⟩;rcases hn with ⟨rfl,hc⟩ | ⟨rfl,hc⟩
 ·unfold aB;rw[hc.out];rfl
 ·unfold aB;rw[hc.out];rfl
theorem aZ {a b:List ByteArray} (h:aC a b=true):1≤b.length∧b.length≤7∧1≤a.length∧a.length≤7∧(∀ s∈a,bU s.data.toList=true)∧(∀ s∈b,bU s.data.toList=true)∧jo b=some [49]:=by
 unfold aC fA at h;simp only[FP,decide_eq_true_eq,FX] at h;exact⟨h.1.2.1.1,h.1.2.1.2,h.1.1.1.1,h.1.1.1.2,h.1.1.2,h.1.2.2,h.2⟩
theorem aG (w:World) (x y:Value):(w.alloc (.cells #[x,y] 24)).cell? ⟨w.heap.size,0,none⟩=some x∧(w.alloc (.cells #[x,y] 24)).cell? ⟨w.heap.size,1,none⟩=some y :=
 ⟨aE w _ _ 0 _ rfl,aE w _ _ 1 _ rfl⟩
def lV (r:ByteArray):Nat→ByteArray
 | 0=>⟨#[49]⟩
 | i+1=>dD (lV r i) r
def dq (out:List ByteArray) (r:ByteArray):List ByteArray:=(List.range out.length).map fun i=>df (aF out i) (lV r i)
theorem rV (out:List ByteArray) (r:ByteArray) {i:Nat} (h:i<out.length):(dq out r).take (i+1)=(dq out r).take i++[df (aF out i) (lV r i)]:=by
 have hl:i<(dq out r).length:=by simp[dq,h]
 rw[show (dq out r).take (i+1)=(dq out r).take i++[(dq out r)[i]] from (FD hl).symm];simp[dq]
def eV (out:List ByteArray) (r:ByteArray):Bool:=(b_ (dq out r)).isSome
theorem DA (v:Value) (l:List ByteArray) (r:ByteArray) (w:World) (hl:IsS w v l) (hpos:0<l.length) (hlen:l.length<1000000) (hG:Gw w) :
  Calls Tryz.prog 101 #[v,.string r] w fun e w'=>e=.returned (.bool (eV l r))∧Below w.heap.size w w':=by
 obtain⟨p,c,rfl,-⟩:=id hl.form;have HL:=Fi hl;have HG:=Fi hG;clear hl hG;go_enter Tryz.func101,Tryz.ntmps101;go_wp2;go_loopw [5,6,11] (fun s5 s6 s11 wr=>∃ i:Nat,s5=.string (lV r i)∧s11=.int .i64 i∧i≤l.length∧bW wr w.heap.size s6 ((dq l r).take i)∧Below w.heap.size w wr) (fun _ _ s11 _=>l.length-(intOf s11).toNat)
 case atStart=>exact⟨0,rfl,rfl,Fz _,bW.nil _ _,Below.refl _ _⟩
 case round =>
  obtain⟨i,rfl,rfl,hin,hown,hbr⟩:=hrel;by_cases hi:i<l.length
  ·obtain⟨b,o,rfl,hbl,hcell⟩:=(HL.out.below hbr).get hi;rw[ek] at hcell;have HT:=Fi (rV l r hi);go_wp2_with fail
   refine (fT _ _ wr (HG.out.below hbr)).mono ?_;rintro e w1 ⟨rfl,hb1⟩;have hB1:=hbr.trans (hb1.mono hbr.size);have hw1:=hown.below hb1;have hbs:=hB1.size;have hzl:((dq l r).take i).length<1000000000:=by simp;omega
   clear hb1 hbr hown hcell;go_wp2_with (at_builtin;refine bo 22 Tryz.underlying22 rfl (.tmp 15) (.tmp 19) rfl w.heap.size _ _ _ rfl hw1 rfl hzl hbs ?_)
   intro v' w2 hw2 hb2;have hB2:=hb2 _ _ hB1 (Fq _);rw[←HT.out] at hw2;clear hw1 hb2 hB1;go_wp2_with fail
   refine (eM _ _ w2 (HG.out.below hB2)).mono ?_;rintro e w3 ⟨rfl,hb3⟩;have hB3:=hB2.trans (hb3.mono hB2.size);have hw3:=hw2.below hb3;clear hb3 hB2 hw2;go_wp2;go_roundw;case rel=>exact⟨i+1,rfl,by go_num,by omega,hw3,hB3⟩
   case measure=>(first | (simp[intOf];done) | (simp[intOf];omega))
  ·have hin':i=l.length:=by omega
   subst hin';have hlw:(dq l r).length=l.length:=by simp[dq]
   rw[←hlw,FQ] at hown;have hs:=hown.isS;have HS:=Fi (lw _ _ wr hs (by omega) (by omega) (HG.out.below hbr));obtain⟨q,d,rfl,-⟩:=hs.form;clear hown hs hi hlw;go_wp2_with fail
   refine HS.out.mono ?_;rintro e w1 ⟨rfl,hb1⟩;go_wp2;go_ret;exact⟨rfl,hbr.trans (hb1.mono hbr.size)⟩
theorem Fh (v:Value) (a b:List ByteArray) (w:World) (hF:IsF w v a b) (hG:Gx w) :
  Calls Tryz.prog 7 #[v] w fun e w'=>e=.returned (.tuple #[.bool (aC a b&&(b_ b).isSome),.int .i64 (aB a b)])∧Below w.heap.size w w':=by
 obtain⟨p,c,q,d,rfl,hfa,hfb⟩:=id hF.ex;go_enter Tryz.func7,Tryz.ntmps7;go_upto_region 1 with fail
 have cc:=aG w (.slice p a.length c) (.slice q b.length d);have m1:=aq w (.cells #[.slice p a.length c,.slice q b.length d] 24);have zz:=size_alloc w (.cells #[.slice p a.length c,.slice q b.length d] 24);generalize w.alloc (.cells #[.slice p a.length c,.slice q b.length d] 24)=w1 at *
 have HCK:=Fi (eH _ a b w1 (hF.below m1) (hG.below m1));have HA:=Fi (hfa.below m1);have HB:=Fi (hfb.below m1);have HG:=Fi (hG.below m1);have c0:=cc.1;have c1:=cc.2;have hlt:w.heap.size<w1.heap.size:=by omega
 have M1:=Fi m1;clear hfa hfb cc zz m1 hF hG;by_cases hck:aC a b=true
 ·have hce:aB a b=0:=by unfold aB;rw[if_pos hck]
  rw[hce] at HCK;obtain⟨ob1,ob7,oa1,oa7,oac,obc,ohd⟩:=aZ hck;clear hce;go_wp2_with fail
  refine HCK.out.mono ?_;rintro e w2 ⟨rfl,hb2⟩;have d0:=ag hb2 hlt c0;have d1:=ag hb2 hlt c1;have HA2:=Fi (HA.out.below hb2);have HB2:=Fi (HB.out.below hb2);have HG2:=Fi (HG.out.below hb2);have M2:=Fi (M1.out.trans (hb2.mono M1.out.size));have hlt2:w.heap.size<w2.heap.size:=Ft hlt hb2.size;clear c0 c1 HA HB HG HCK M1 hb2 hlt;have HS:=Fi (lw _ b w2 HB2.out ob1 (by omega) HG2.out.g);have HC:=Fi hck;clear hck oac obc ohd ob1 ob7 oa1 oa7;go_wp2_with fail
  refine HS.out.mono ?_;rintro e w3 ⟨rfl,hb3⟩;go_wp2;refine bodyPost_ret (v:=.tuple #[.bool (b_ b).isSome,.int .i64 0]) (by simp[results,Tryz.results7,go_sem]) rfl ⟨by unfold aB;rw[HC.out];rfl,M2.out.trans (hb3.mono M2.out.size)⟩
 ·have HC:=Fi (show aC a b=false by simpa using hck);have hce:aB a b=30:=by unfold aB;rw[if_neg hck]
  rw[hce] at HCK;clear hce;go_wp2_with fail
  refine HCK.out.mono ?_;rintro e w2 ⟨rfl,hb2⟩;go_wp2;refine bodyPost_ret (v:=.tuple #[.bool false,.int .i64 30]) (by simp[results,Tryz.results7,go_sem]) rfl ⟨by unfold aB;rw[HC.out];rfl,M1.out.trans (hb2.mono M1.out.size)⟩
def DW (a b:List ByteArray) (w:World) (e:Ending) (w':World):Prop :=
 ∃ v err,e=.returned (.tuple #[v,.int .i64 err])∧((∃ pf,aC a b=true∧b_ b=some pf∧err=0∧IsS w' v pf∧pf.length=b.length-1)∨(aC a b=true∧b_ b=none∧err=31∧v=.slice none 0 0)∨(aC a b=false∧err=30∧v=.slice none 0 0))∧Below w.heap.size w w'
theorem zR (v:Value) (a b:List ByteArray) (w:World) (hF:IsF w v a b) (hG:Gx w) :
  Calls Tryz.prog 9 #[v] w (DW a b w):=by
 obtain⟨p,c,q,d,rfl,hfa,hfb⟩:=id hF.ex;go_enter Tryz.func9,Tryz.ntmps9;go_upto_region 1 with fail
 have cc:=aG w (.slice p a.length c) (.slice q b.length d);have m1:=aq w (.cells #[.slice p a.length c,.slice q b.length d] 24);have zz:=size_alloc w (.cells #[.slice p a.length c,.slice q b.length d] 24);generalize w.alloc (.cells #[.slice p a.length c,.slice q b.length d] 24)=w1 at *
 have HCK:=Fi (eH _ a b w1 (hF.below m1) (hG.below m1));have HA:=Fi (hfa.below m1);have HB:=Fi (hfb.below m1);have HG:=Fi (hG.below m1);have c0:=cc.1;have c1:=cc.2;have hlt:w.heap.size<w1.heap.size:=by omega
 have M1:=Fi m1;clear hfa hfb cc zz m1 hF hG;by_cases hck:aC a b=true
 ·have hce:aB a b=0:=by unfold aB;rw[if_pos hck]
  rw[hce] at HCK;obtain⟨ob1,ob7,oa1,oa7,oac,obc,ohd⟩:=aZ hck;clear hce;go_wp2_with fail
  refine HCK.out.mono ?_;rintro e w2 ⟨rfl,hb2⟩;have d0:=ag hb2 hlt c0;have d1:=ag hb2 hlt c1;have HA2:=Fi (HA.out.below hb2);have HB2:=Fi (HB.out.below hb2);have HG2:=Fi (HG.out.below hb2);have M2:=Fi (M1.out.trans (hb2.mono M1.out.size));have hlt2:w.heap.size<w2.heap.size:=Ft hlt hb2.size;clear c0 c1 HA HB HG HCK M1 hb2 hlt;have HS:=Fi (Bp _ b w2 HB2.out ob1 (by omega) HG2.out.g);have HC:=Fi hck;clear hck oac obc ohd ob1 ob7 oa1 oa7;go_wp2_with fail
  refine HS.out.mono ?_;rintro e w3 ⟨v3,ok,rfl,hcase,hb3⟩;rcases hcase with ⟨pf,hq,rfl,hp,hpl⟩ | ⟨hq,rfl,rfl⟩
  ·have HQ:=Fi hq;have HPL:=Fi hpl;obtain⟨p1,c1',rfl,-⟩:=id hp.form;clear hq hpl;go_wp2;refine bodyPost_ret (v:=.tuple #[.slice p1 pf.length c1',.int .i64 0]) (by simp[results,Tryz.results9,go_sem]) rfl ⟨_,_,rfl,Or.inl ⟨pf,HC.out,HQ.out,rfl,hp,HPL.out⟩,M2.out.trans (hb3.mono M2.out.size)⟩
  ·have HQ:=Fi hq;clear hq;go_wp2;refine bodyPost_ret (v:=.tuple #[.slice none 0 0,.int .i64 31]) (by simp[results,Tryz.results9,go_sem]) rfl ⟨_,_,rfl,Or.inr (Or.inl ⟨HC.out,HQ.out,rfl,rfl⟩),M2.out.trans (hb3.mono M2.out.size)⟩
 ·have HC:=Fi (show aC a b=false by simpa using hck);have hce:aB a b=30:=by unfold aB;rw[if_neg hck]
  rw[hce] at HCK;clear hce;go_wp2_with fail
  refine HCK.out.mono ?_;rintro e w2 ⟨rfl,hb2⟩;go_wp2;refine bodyPost_ret (v:=.tuple #[.slice none 0 0,.int .i64 30]) (by simp[results,Tryz.results9,go_sem]) rfl ⟨_,_,rfl,Or.inr (Or.inr ⟨HC.out,rfl,rfl⟩),M1.out.trans (hb2.mono M1.out.size)⟩
open Go.RowKit Dg Dc
def tq (q:Rat):ByteArray:=txt (CQ.real q)
def okQ (q:Rat):Prop:=eG (CQ.real q)=false
theorem lh (q:Rat):okQ q↔cU (rt q)=false:=by
 unfold okQ eG CQ.real;have h0:cU (rt 0)=false:=by rw[dN];exact j5
 rw[h0,Bool.or_false]
theorem Bc {q:Rat} (h1:q.num.natAbs<10 ^ 2000) (h2:q.den<10 ^ 2000):okQ q:=by
 rw[lh];unfold cU rt;have h3:=bC (k:=2000) (by decide) h1;have h4:=bC (k:=2000) (by decide) h2;simp only[G4,decide_eq_false_iff_not];omega
theorem qu9 {q:Rat} (h:okQ q):q.num.natAbs<10 ^ 2000∧q.den<10 ^ 2000:=by
 have:=ux ((lh q).1 h) (dF q);exact⟨this.n,this.d⟩
theorem lJ {q:Rat} (h:okQ q):fR (tq q)=some (CQ.real q):=pR h
theorem rH {q:Rat} (h:okQ q):dQ (CQ.real q)=(tq q,0):=by unfold dQ;rw[if_neg (by rw[show eG (CQ.real q)=false from h];decide)];rfl
theorem BA (a b:Rat):(CQ.real a).add (CQ.real b)=CQ.real (a+b):=by show (⟨a+b,0+0⟩:CQ)=⟨a+b,0⟩;rw[Rat.add_zero]
theorem BD (a b:Rat):(CQ.real a).mul (CQ.real b)=CQ.real (a*b):=by unfold CQ.real CQ.mul;congr 1<;>grind
theorem BC (a b:Rat) (h:b≠0):(CQ.real a).div (CQ.real b)=CQ.real (a / b):=by unfold CQ.real CQ.div CQ.norm;congr 1<;>grind
theorem vW {a b:Rat} (ha:okQ a) (hb:okQ b) (h:okQ (a+b)):fQ (tq a) (tq b)=tq (a+b):=by
 unfold fQ da gG;rw[lJ ha,lJ hb];simp only[if_true];rw[BA,rH h]
theorem wS {a b:Rat} (ha:okQ a) (hb:okQ b) (h:okQ (a*b)):dD (tq a) (tq b)=tq (a*b):=by
 unfold dD da gG;rw[lJ ha,lJ hb];simp only[if_true];rw[BD,rH h]
theorem CO {a b:Rat} (ha:okQ a) (hb:okQ b) (hne:b≠0) (h:okQ (a / b)):df (tq a) (tq b)=tq (a / b):=by
 unfold df da sL;rw[lJ ha,lJ hb];have hn:CQ.real b≠⟨0,0⟩:=fun e=>hne (congrArg CQ.re e);simp only[if_neg hn,if_true];rw[BC a b hne,rH h]
theorem oS:tq 1=⟨#[49]⟩:=by
 unfold tq txt
 have e:bQ (ct (CQ.real 1))=[49]:=by
  rw[dG (z:=ct (CQ.real 1)) (by show (rt 0).n=0;rw[dN])]
  show aL ⟨false,1,1⟩=_
  unfold aL;rw[dY (show 1<10 by decide)];rfl
 rw[e]
theorem Ew (k:Nat) (h:k≠0):1<10 ^ k:=Nat.one_lt_pow h (by decide)
theorem xw:(1:Nat)<10 ^ 2000:=Ew 2000 (by decide)
theorem jZ:okQ 1:=Bc xw xw
theorem Dh {s:ByteArray} (h:gR s.data.toList=true):∃ q,s=tq q∧okQ q:=by
 unfold gR at h
 cases hg:gx s.data.toList with
 | none=>rw[hg] at h;cases h
 | some z =>
  rw[hg] at h;obtain⟨q,rfl,-,-,h3,h4⟩:=iL hg;have him:q.im=0:=(bA _).1 (of_decide_eq_true h);have e:q=CQ.real q.re:=by cases q;simp only at him;subst him;rfl
  rw[e] at h3 h4;exact⟨q.re,h4.symm,h3⟩
theorem wk {s:ByteArray} (h:bU s.data.toList=true):∃ q,s=tq q∧okQ q:=by
 unfold bU at h;simp only[FP] at h;exact Dh h.1
theorem Aq {s:ByteArray} (h:bU s.data.toList=true):df s ⟨#[49]⟩=s:=by
 obtain⟨q,rfl,hq⟩:=wk h;have e:q / 1=q:=by grind
 rw[←oS,CO hq jZ (by decide) (by rw[e];exact hq),e]
theorem A7:dD ⟨#[49]⟩ ⟨#[49]⟩=⟨#[49]⟩:=by
 have e:(1:Rat)*1=1:=by grind
 rw[←oS,wS jZ jZ (by rw[e];exact jZ),e]
def ofT (n:Nat):ByteArray:=(dQ (CQ.real (mkRat n 64))).1
theorem C7:ofT 64=⟨#[49]⟩:=by
 have e:mkRat ((64:Nat):Int) 64=1:=by decide +kernel
 unfold ofT;rw[e,rH jZ,oS]
theorem oH:∀ i,lV ⟨#[49]⟩ i=⟨#[49]⟩
 | 0=>rfl
 | i+1=>by unfold lV;rw[oH i,A7]
theorem ui {b:List ByteArray} (h:∀ s∈b,bU s.data.toList=true):dq b ⟨#[49]⟩=b:=by
 refine IN (by simp[dq]) fun i h1 h2=>?_;simp only[dq,Gu,ID,oH];rw[←ek h2,Aq (h _ (FG h2))]
def Cw (a b:List ByteArray) (w:World) (e:Ending) (w':World):Prop :=
  ∃ n err,e=.returned (.tuple #[.int .i64 n,.int .i64 err]) ∧
    ((aC a b=true∧(b_ b).isSome=true∧err=0∧∃ k:Nat,n=k∧1≤k∧k≤64∧eV b (ofT k)=true∧∀ m,1≤m→m<k→eV b (ofT m)=false) ∨
     (aC a b=true∧(b_ b).isSome=false∧err=31∧n=0)∨(aC a b=false∧err=30∧n=0))∧Below w.heap.size w w'
theorem Cx (v:Value) (a b:List ByteArray) (w:World) (hF:IsF w v a b) (hG:Gx w) :
  Calls Tryz.prog 46 #[v] w (Cw a b w):=by
 obtain⟨p,c,q,d,rfl,hfa,hfb⟩:=id hF.ex;go_enter Tryz.func46,Tryz.ntmps46;go_upto_region 1 with fail
 have cc:=aG w (.slice p a.length c) (.slice q b.length d);have m1:=aq w (.cells #[.slice p a.length c,.slice q b.length d] 24);have zz:=size_alloc w (.cells #[.slice p a.length c,.slice q b.length d] 24);generalize w.alloc (.cells #[.slice p a.length c,.slice q b.length d] 24)=w1 at *
 have HCK:=Fi (eH _ a b w1 (hF.below m1) (hG.below m1));have HA:=Fi (hfa.below m1);have HB:=Fi (hfb.below m1);have HG:=Fi (hG.below m1);have c0:=cc.1;have c1:=cc.2;have hlt:w.heap.size<w1.heap.size:=by omega
 have M1:=Fi m1;clear hfa hfb cc zz m1 hF hG;by_cases hck:aC a b=true
 ·have hce:aB a b=0:=by unfold aB;rw[if_pos hck]
  rw[hce] at HCK;obtain⟨ob1,ob7,oa1,oa7,oac,obc,ohd⟩:=aZ hck;clear hce;go_wp2_with fail
  refine HCK.out.mono ?_;rintro e w2 ⟨rfl,hb2⟩;have d0:=ag hb2 hlt c0;have d1:=ag hb2 hlt c1;have HA2:=Fi (HA.out.below hb2);have HB2:=Fi (HB.out.below hb2);have HG2:=Fi (HG.out.below hb2);have M2:=Fi (M1.out.trans (hb2.mono M1.out.size));have hlt2:w.heap.size<w2.heap.size:=Ft hlt hb2.size;clear c0 c1 HA HB HG HCK M1 hb2 hlt;have HS:=Fi (lw _ b w2 HB2.out ob1 (by omega) HG2.out.g);have HC:=Fi hck;have HOC:=Fi obc;have HOB:=Fi (And.intro ob1 ob7);clear hck oac obc ohd ob1 ob7 oa1 oa7;by_cases hst:(b_ b).isSome=true
  ·rw[hst] at HS;have HST:=Fi hst;have HW1:=Fi (show eV b (ofT 64)=true by unfold eV;rw[C7,ui HOC.out];exact hst);clear hst;go_wp2_with fail
   refine HS.out.mono ?_;rintro e w3 ⟨rfl,hb3⟩;go_wp2;go_loopw [5] (fun s5 wr=>∃ n:Nat,s5=.int .i64 n∧1≤n∧n≤64∧Hid (∀ m,1≤m→m<n→eV b (ofT m)=false)∧Below w2.heap.size w2 wr) (fun s5 _=>64-(intOf s5).toNat)
   case atStart=>exact⟨1,rfl,Fq _,by decide,fun m h1 h2=>by omega,hb3⟩
   case round =>
    clear hb3;obtain⟨n,rfl,hn1,hn2,hall,hbr⟩:=hrel;go_wp2_with fail
    have hof:=Fa (n:Int) 64 wr (by omega) (by omega) (by decide) (by decide) (HG2.out.below hbr).g;refine hof.mono ?_;clear hof;rintro e w4 ⟨rfl,hb4⟩;have hB4:=hbr.trans (hb4.mono hbr.size);have d1':=ag hB4 hlt2 d1;obtain⟨rr,hrr⟩:∃ r,r=ofT n:=⟨_,rfl⟩;rw[show (dQ (CQ.real (mkRat (n:Int) 64))).1=rr from hrr.symm];obtain⟨ww,hww⟩:∃ x,x=eV b rr:=⟨_,rfl⟩;have hwi:=DA _ b rr w4 (HB2.out.below hB4) HOB.out.1 (by have:=HOB.out.2;omega) (HG2.out.below hB4).g;rw[←hww] at hwi;have HWI:=Fi hwi;have hwn:eV b (ofT n)=ww:=by rw[hww,hrr]
    have HWN:=Fi hwn;clear hwi hww hrr hb4 hbr hwn;go_wp2_with fail
    refine HWI.out.mono ?_;rintro e w5 ⟨rfl,hb5⟩;have hB5:=hB4.trans (hb5.mono hB4.size)
    cases ww with
    | true =>
     clear hb5;go_wp2;refine bodyPost_ret (v:=.tuple #[.int .i64 n,.int .i64 0]) (by simp[results,Tryz.results46,go_sem]) rfl ⟨_,_,rfl,Or.inl ⟨HC.out,HST.out,rfl,n,rfl,hn1,hn2,HWN.out,hall.out⟩,M2.out.trans (hB5.mono M2.out.size)⟩
    | false =>
     have hlt:n<64:=by
      rcases GD n 64 with h | h
      ·exact h
      ·have h64:n=64:=by omega
       have h1:=HWN.out;rw[h64,HW1.out] at h1
       cases h1
     have hall2:Hid (∀ m,1≤m→m<n+1→eV b (ofT m)=false):=fun m h1 h2=>by
      by_cases hm:m=n
      ·subst hm;exact HWN.out
      ·exact hall.out m h1 (by omega)
     clear hall hb5;go_wp2;go_roundw;case rel=>exact⟨n+1,by go_num,by omega,by omega,hall2,hB5⟩
     case measure=>(first | (simp[intOf];done) | (simp[intOf];omega))
  ·have hst':(b_ b).isSome=false:=by simpa using hst
   rw[hst'] at HS;have HST:=Fi hst';clear hst hst';go_wp2_with fail
   refine HS.out.mono ?_;rintro e w3 ⟨rfl,hb3⟩;go_wp2;refine bodyPost_ret (v:=.tuple #[.int .i64 0,.int .i64 31]) (by simp[results,Tryz.results46,go_sem]) rfl ⟨_,_,rfl,Or.inr (Or.inl ⟨HC.out,HST.out,rfl,rfl⟩),M2.out.trans (hb3.mono M2.out.size)⟩
 ·have HC:=Fi (show aC a b=false by simpa using hck);have hce:aB a b=30:=by unfold aB;rw[if_neg hck]
  rw[hce] at HCK;clear hce;go_wp2_with fail
  refine HCK.out.mono ?_;rintro e w2 ⟨rfl,hb2⟩;go_wp2;refine bodyPost_ret (v:=.tuple #[.int .i64 0,.int .i64 30]) (by simp[results,Tryz.results46,go_sem]) rfl ⟨_,_,rfl,Or.inr (Or.inr ⟨HC.out,rfl,rfl⟩),M1.out.trans (hb2.mono M1.out.size)⟩
def inT (a x:List ByteArray) (t:Nat):Nat→ByteArray
 | 0=>⟨#[48]⟩
 | k+1=>if k≤t then fQ (inT a x t k) (dD (aF a k) (aF x (t-k))) else inT a x t k
def rD (b y:List ByteArray) (t:Nat) (n:ByteArray):Nat→ByteArray
 | 0=>n
 | k+1=>if 0<k∧k≤t then jG (rD b y t n k) (dD (aF b k) (aF y (t-k))) else rD b y t n k
def rN (a b x y:List ByteArray) (t:Nat):ByteArray:=rD b y t (inT a x t a.length) b.length
def eP (a b x:List ByteArray):Nat→List ByteArray
 | 0=>[]
 | t+1=>eP a b x t++[rN a b x (eP a b x t) t]
theorem mr (a b x:List ByteArray):∀ t,(eP a b x t).length=t
 | 0=>rfl
 | t+1=>by unfold eP;rw[FA,mr a b x t];rfl
theorem IsS.all {w:World}{p:Option Addr}{n c:Nat}{l:List ByteArray} (h:IsS w (.slice p n c) l) (h0:0<l.length):∃ b o,p=some ⟨b,o,none⟩∧b<w.heap.size∧∀ k,k<l.length→w.cell? ⟨b,o+k,none⟩=some (.string (aF l k)):=by
 obtain⟨b,o,rfl,hlt,-⟩:=h.get h0;refine⟨b,o,rfl,hlt,fun k hk=>?_⟩;obtain⟨b',o',e,-,hc⟩:=h.get hk;obtain⟨rfl,rfl⟩:b=b'∧o=o':=by simpa using e
 rw[hc,ek]
theorem C_ (v vx:Value) (a b x:List ByteArray) (w:World) (hF:IsF w v a b) (hx:IsS w vx x) (ha0:0<a.length) (hb0:0<b.length) (ha:a.length<1000) (hb:b.length<1000) (hxl:x.length<1000) (hG:Gw w) :
  Calls Tryz.prog 53 #[v,vx] w fun e w'=>∃ u,e=.returned u∧IsS w' u (eP a b x x.length)∧Below w.heap.size w w':=by
 obtain⟨p,c,q,d,rfl,hfa,hfb⟩:=id hF.ex;obtain⟨px,cx,rfl,-⟩:=id hx.form;go_enter Tryz.func53,Tryz.ntmps53;go_upto_region 1 with fail
 have cc:=aG w (.slice p a.length c) (.slice q b.length d);have m1:=aq w (.cells #[.slice p a.length c,.slice q b.length d] 24);have zz:=size_alloc w (.cells #[.slice p a.length c,.slice q b.length d] 24);generalize w.alloc (.cells #[.slice p a.length c,.slice q b.length d] 24)=w1 at *
 obtain⟨ba,oa,rfl,hba,ca⟩:=(hfa.below m1).all ha0;obtain⟨bb,ob,rfl,hbb,cb⟩:=(hfb.below m1).all hb0;have HA:=Fi ca;have HB:=Fi cb;have HX:=Fi (hx.below m1);have HG:=Fi (hG.below m1);have C0:=Fi cc.1;have C1:=Fi cc.2;have hlt:w.heap.size<w1.heap.size:=by omega
 have M1:=Fi m1;clear hfa hfb cc zz m1 hF hG hx ca cb;go_wp2;go_loopw [5,14] (fun s5 s14 wr=>∃ t:Nat,s14=.int .i64 t∧t≤x.length∧bW wr w1.heap.size s5 (eP a b x t)∧Below w1.heap.size w1 wr) (fun _ s14 _=>x.length-(intOf s14).toNat)
 case atStart=>exact⟨0,rfl,Fz _,bW.nil _ _,Below.refl _ _⟩
 case round =>
  rename World=>wo;obtain⟨t,rfl,htn,hown,hbr⟩:=hrel;by_cases ht:t<x.length
  ·obtain⟨py,cy,rfl,-⟩:=id hown.isS.form;obtain⟨bx,ox,rfl,hbx,cx'⟩:=HX.out.all (by omega);have CX:=Fi cx';have d0:=ag hbr hlt C0.out;obtain⟨y,hy⟩:∃ y,y=eP a b x t:=⟨_,rfl⟩;have hyl:y.length=t:=by rw[hy,mr]
   have HY:=Fi hy;rw[←hy] at hown ⊢;rw[hyl];have HYL:=Fi hyl;have HOWN:=Fi hown;have HBR:=Fi hbr;clear hy hyl hown cx' hbr;go_wp2;go_loopw [7,20] (fun s7 s20 wr2=>∃ k:Nat,s7=.string (inT a x t k)∧s20=.int .i64 k∧k≤a.length∧Below wo.heap.size wo wr2) (fun _ s20 _=>a.length-(intOf s20).toNat)
   case atStart=>exact⟨0,rfl,rfl,Fz _,Below.refl _ _⟩
   case round =>
    clear d0;obtain⟨k,rfl,rfl,hkn,hbk⟩:=hrel;have hB1:=HBR.out.trans (hbk.mono HBR.out.size);by_cases hk:k<a.length
    ·have hc:=ag hB1 hba (HA.out k hk);by_cases hkt:k≤t
     ·have hdt:decide ((k:Int)≤(t:Int))=true:=by simp;omega
      have e1:(t:Int)-(k:Int)=((t-k:Nat):Int):=by omega
      have hx:=ag hB1 hbx (CX.out (t-k) (by omega));have HT:=Fi (show inT a x t (k+1)=fQ (inT a x t k) (dD (aF a k) (aF x (t-k))) by show (if k≤t then _ else _)=_;rw[if_pos hkt]);have hlx:t-k<x.length:=by omega
      go_wp2_with fail
      refine (eM _ _ wr (HG.out.below hB1)).mono ?_;rintro e w3 ⟨rfl,hb3⟩;go_wp2_with fail
      refine (jW _ _ w3 ((HG.out.below hB1).below hb3)).mono ?_;rintro e w4 ⟨rfl,hb4⟩;have hB4:=hbk.trans ((hb3.trans (hb4.mono hb3.size)).mono hbk.size);clear hc hx hb3 hb4 hbk hB1;go_wp2;go_roundw;case rel=>exact⟨k+1,by rw[HT.out],by go_num,by omega,hB4⟩
      case measure=>(first | (simp[intOf];done) | (simp[intOf];omega))
     ·have hdt:decide ((k:Int)≤(t:Int))=false:=by simp;omega
      have HT:=Fi (show inT a x t (k+1)=inT a x t k by show (if k≤t then _ else _)=_;rw[if_neg hkt]);go_wp2;go_roundw;case rel=>exact⟨k+1,by rw[HT.out],by go_num,by omega,hbk⟩
      case measure=>(first | (simp[intOf];done) | (simp[intOf];omega))
    ·have hk':k=a.length:=by omega
     subst hk';rename World=>w5;obtain⟨n0,hn0⟩:∃ n,n=inT a x t a.length:=⟨_,rfl⟩;rw[←hn0];have HN0:=Fi hn0;have d1:=ag hB1 hlt C1.out;clear hn0 hk;go_wp2;go_loopw [7,42] (fun s7 s42 wr2=>∃ k:Nat,s7=.string (rD b y t n0 k)∧s42=.int .i64 k∧k≤b.length∧Below wo.heap.size wo wr2) (fun _ s42 _=>b.length-(intOf s42).toNat)
     case atStart=>exact⟨0,rfl,rfl,Fz _,hbk⟩
     case round =>
      clear d1 hbk hB1;obtain⟨k,rfl,rfl,hkn,hbk⟩:=hrel;have hB1:=HBR.out.trans (hbk.mono HBR.out.size);by_cases hk:k<b.length
      ·have hc:=ag hB1 hbb (HB.out k hk);by_cases hkt:0<k∧k≤t
       ·have hd0:decide ((0:Int)<(k:Int))=true:=by simp;omega
        have hdt:decide ((k:Int)≤(t:Int))=true:=by simp;omega
        have e1:(t:Int)-(k:Int)=((t-k:Nat):Int):=by omega
        have HT:=Fi (show rD b y t n0 (k+1)=jG (rD b y t n0 k) (dD (aF b k) (aF y (t-k))) by show (if 0<k∧k≤t then _ else _)=_;rw[if_pos hkt]);obtain⟨by',oy,rfl,hby,cy'⟩:=(HOWN.out.below hbk).isS.all (by rw[HYL.out];omega);have hy:=cy' (t-k) (by rw[HYL.out];omega);have hlx:t-k<t:=by omega
        clear cy';go_wp2_with fail
        refine (eM _ _ wr (HG.out.below hB1)).mono ?_;rintro e w3 ⟨rfl,hb3⟩;go_wp2_with fail
        refine (le _ _ w3 ((HG.out.below hB1).below hb3)).mono ?_;rintro e w4 ⟨rfl,hb4⟩;have hB4:=hbk.trans ((hb3.trans (hb4.mono hb3.size)).mono hbk.size);clear hc hy hb3 hb4 hbk hB1;go_wp2;go_roundw;case rel=>exact⟨k+1,by rw[HT.out],by go_num,by omega,hB4⟩
        case measure=>(first | (simp[intOf];done) | (simp[intOf];omega))
       ·have HT:=Fi (show rD b y t n0 (k+1)=rD b y t n0 k by show (if 0<k∧k≤t then _ else _)=_;rw[if_neg hkt]);by_cases hk0:0<k
        ·have hd0:decide ((0:Int)<(k:Int))=true:=by simp;omega
         have hdt:decide ((k:Int)≤(t:Int))=false:=by simp;omega
         go_wp2;go_roundw;case rel=>exact⟨k+1,by rw[HT.out],by go_num,by omega,hbk⟩
         case measure=>(first | (simp[intOf];done) | (simp[intOf];omega))
        ·have hd0:decide ((0:Int)<(k:Int))=false:=by simp;omega
         go_wp2;go_roundw;case rel=>exact⟨k+1,by rw[HT.out],by go_num,by omega,hbk⟩
         case measure=>(first | (simp[intOf];done) | (simp[intOf];omega))
      ·have hk':k=b.length:=by omega
       subst hk';have hs:rD b y t n0 b.length=rN a b x y t:=by rw[HN0.out];rfl
       rw[hs];have hw:bW wr w1.heap.size (.slice py t cy) y:=by have:=HOWN.out.below hbk;rwa [HYL.out] at this
       have hbs:=hB1.size;have hyl:y.length<1000000000:=by rw[HYL.out];omega
       have HS:=Fi (show eP a b x (t+1)=y++[rN a b x y t] by show eP a b x t++_=_;rw[←HY.out]);clear hs hk;generalize Value.slice py t cy=v5 at hw ⊢;go_wp2_with (at_builtin;refine bo 22 Tryz.underlying22 rfl (.tmp 65) (.tmp 67) rfl w1.heap.size _ _ _ rfl hw rfl hyl hbs ?_)
       intro v' w6 hw6 hb6;have hB6:=hb6 _ _ hB1 (Fq _);rw[←HS.out] at hw6;clear hw hb6 hB1 hbk hyl;go_wp2;go_roundw;case rel=>exact⟨t+1,by go_num,by omega,hw6,hB6⟩
       case measure=>(first | (simp[intOf];done) | (simp[intOf];omega))
  ·have ht':t=x.length:=by omega
   subst ht';have hs:=hown.isS;obtain⟨q1,d1,rfl,-⟩:=id hs.form;clear ht hown;go_wp2;go_ret;exact⟨_,rfl,hs,M1.out.trans (hbr.mono M1.out.size)⟩
def gK (n:Nat):List ByteArray:=(List.range n).map fun i=>if i=0 then ⟨#[49]⟩ else ⟨#[48]⟩
theorem eK (n:Nat):(gK n).length=n:=by simp[gK]
theorem tg {n i:Nat} (h:i<(gK n).length):(gK n)[i]=if i=0 then ⟨#[49]⟩ else ⟨#[48]⟩:=by simp[gK]
theorem AA {n i:Nat} (h:i<n) (h0:i≠0):(bK (gK n) i).set i ⟨#[48]⟩=bK (gK n) (i+1):=by
 have hl:i<(gK n).length:=by rw[eK];exact h
 have:=ig (gK n) hl;rw[tg hl,if_neg h0] at this;exact this
theorem yx {n:Nat} (h:0<n):((bK (gK n) 0).set 0 ⟨#[48]⟩).set 0 ⟨#[49]⟩=bK (gK n) 1:=by
 have hl:0<(gK n).length:=by rw[eK];exact h
 have:=ig (gK n) hl;rw[tg hl,if_pos rfl] at this;rw[List.set_set];exact this
def zK (e0:Int) (l:List ByteArray) (w:World) (e:Ending) (w':World):Prop :=
 ∃ v,e=.returned (.tuple #[v,.int .i64 e0])∧(e0=0→IsS w' v l)∧(e0≠0→v=.slice none 0 0)∧Below w.heap.size w w'
def ko (a b:List ByteArray) (n:Int):Int:=if aC a b=true then (if 0≤n∧n≤64 then 0 else 8) else 30
theorem xL (v:Value) (a b:List ByteArray) (n:Int) (w:World) (hF:IsF w v a b) (hG:Gx w) :
  Calls Tryz.prog 17 #[v,.int .i64 n] w (zK (ko a b n) (eP a b (gK n.toNat) n.toNat) w):=by
 obtain⟨p,c,q,d,rfl,hfa,hfb⟩:=id hF.ex;go_enter Tryz.func17,Tryz.ntmps17;go_upto_region 1 with fail
 have cc:=aG w (.slice p a.length c) (.slice q b.length d);have m1:=aq w (.cells #[.slice p a.length c,.slice q b.length d] 24);have zz:=size_alloc w (.cells #[.slice p a.length c,.slice q b.length d] 24);generalize w.alloc (.cells #[.slice p a.length c,.slice q b.length d] 24)=w1 at *
 have HCK:=Fi (eH _ a b w1 (hF.below m1) (hG.below m1));have HA:=Fi (hfa.below m1);have HB:=Fi (hfb.below m1);have HG:=Fi (hG.below m1);have c0:=cc.1;have c1:=cc.2;have hlt:w.heap.size<w1.heap.size:=by omega
 have M1:=Fi m1;clear hfa hfb cc zz m1 hF hG;by_cases hck:aC a b=true
 ·have hce:aB a b=0:=by unfold aB;rw[if_pos hck]
  rw[hce] at HCK;obtain⟨ob1,ob7,oa1,oa7,oac,obc,ohd⟩:=aZ hck;clear hce;go_wp2_with fail
  refine HCK.out.mono ?_;rintro e w2 ⟨rfl,hb2⟩;have d0:=ag hb2 hlt c0;have d1:=ag hb2 hlt c1;have HA2:=Fi (HA.out.below hb2);have HB2:=Fi (HB.out.below hb2);have HG2:=Fi (HG.out.below hb2);have M2:=Fi (M1.out.trans (hb2.mono M1.out.size));have hlt2:w.heap.size<w2.heap.size:=Ft hlt hb2.size;clear c0 c1 HA HB HG HCK M1 hb2 hlt;have HC:=Fi hck;have HF2:=Fi (show IsF w2 (.agg #[.slice p a.length c,.slice q b.length d]) a b from⟨⟨p,c,q,d,rfl,HA2.out,HB2.out⟩⟩);have HLN:=Fi (And.intro oa1 (And.intro oa7 (And.intro ob1 ob7)));clear hck oac obc ohd ob1 ob7 oa1 oa7;by_cases hn0:n<0
  ·have hd:decide (n<0)=true:=decide_eq_true hn0;have he:ko a b n=8:=by unfold ko;rw[if_pos HC.out,if_neg (by omega)]
   have HE:=Fi he;clear he;go_wp2;refine bodyPost_ret (v:=.tuple #[.slice none 0 0,.int .i64 8]) (by simp[results,Tryz.results17,go_sem]) rfl ⟨_,by rw[HE.out],(fun h=>by rw[HE.out] at h;cases h),(fun _=>rfl),M2.out⟩
  ·have hd:decide (n<0)=false:=decide_eq_false hn0;by_cases hn1:64<n
   ·have hd1:decide (64<n)=true:=decide_eq_true hn1;have he:ko a b n=8:=by unfold ko;rw[if_pos HC.out,if_neg (by omega)]
    have HE:=Fi he;clear he;go_wp2;refine bodyPost_ret (v:=.tuple #[.slice none 0 0,.int .i64 8]) (by simp[results,Tryz.results17,go_sem]) rfl ⟨_,by rw[HE.out],(fun h=>by rw[HE.out] at h;cases h),(fun _=>rfl),M2.out⟩
   ·have hd1:decide (64<n)=false:=decide_eq_false hn1;have he:ko a b n=0:=by unfold ko;rw[if_pos HC.out,if_pos (by omega)]
    have HE:=Fi he;obtain⟨m,rfl⟩:∃ m:Nat,n=m:=⟨n.toNat,by omega⟩;have hm64:m≤64:=by omega
    clear he hn0 hn1;rw[Hp];go_wp2_with (at_make;refine cD 22 Tryz.underlying22 rfl (.tmp 20) (.tmp 20) rfl _ _ m rfl rfl rfl rfl (by omega) ?_)
    intro w3 hrow hb3 hs3;have hB3:=hb3 _ _ (Below.refl _ _) (Fq _);have hr3:cR w3 w2.heap.size m (bK (gK m) 0):=by rw[gw,eK];exact hrow
    have hdr:=fun (_:Unit)=>hd;clear hrow hb3 hs3 hdr;go_wp2;go_loopw [24] (fun s24 wr=>∃ i:Nat,s24=.int .i64 i∧i≤m∧cR wr w2.heap.size m (bK (gK m) i)∧Below w2.heap.size w2 wr) (fun s24 _=>m-(intOf s24).toNat)
    case atStart=>exact⟨0,rfl,Fz _,hr3,hB3⟩
    case round =>
     clear hr3 hB3;obtain⟨i,rfl,him,hr,hbr⟩:=hrel;by_cases hi:i<m
     ·have hl:i<(bK (gK m) i).length:=by rw[ie _ (by rw[eK];omega),eK];exact hi
      have rc:=hr.cell hl;have rf:=hr.free i;have s1:=hr.set i ⟨#[48]⟩;have hb1:=hbr.setCell (p:=⟨w2.heap.size,i,none⟩) (Fq _) (.string ⟨#[48]⟩);by_cases h0:i=0
      ·subst h0;have s2:=s1.set 0 ⟨#[49]⟩;rw[yx hi] at s2;have hb2:=hb1.setCell (p:=⟨w2.heap.size,0,none⟩) (Fq _) (.string ⟨#[49]⟩);have rc2:=s1.cell (j:=0) (by simpa using hl);have rf2:=s1.free 0;clear s1 hb1;go_wp2;go_roundw;case rel=>exact⟨1,by go_num,by omega,s2,hb2⟩
       case measure=>(first | (simp[intOf];done) | (simp[intOf];omega))
      ·have hz:((i:Int) == 0)=false:=by simp;omega
       rw[AA hi h0] at s1;go_wp2;go_roundw;case rel=>exact⟨i+1,by go_num,by omega,s1,hb1⟩
       case measure=>(first | (simp[intOf];done) | (simp[intOf];omega))
     ·have him':i=m:=by omega
      subst him';have hfull:bK (gK i) i=gK i:=by have:=gr (gK i);rwa [eK] at this
      rw[hfull] at hr;have hX:=hr.isS;rw[eK] at hX;have HO:=Fi (C_ _ _ a b (gK i) wr (HF2.out.below hbr) hX HLN.out.1 HLN.out.2.2.1 (by have:=HLN.out.2.1;omega) (by have:=HLN.out.2.2.2;omega) (by rw[eK];omega) (HG2.out.below hbr).g);rw[eK] at HO;have d0':=ag hbr hlt2 d0;have d1':=ag hbr hlt2 d1;clear hfull hr hX d0 d1 hi;go_wp2_with fail
      refine HO.out.mono ?_;rintro e w5 ⟨u,rfl,hu,hb5⟩;obtain⟨pu,cu,rfl,-⟩:=id hu.form;go_wp2;refine bodyPost_ret (v:=.tuple #[.slice pu _ cu,.int .i64 0]) (by simp[results,Tryz.results17,go_sem];rfl) rfl ⟨_,by rw[HE.out],(fun _=>hu),(fun h=>absurd HE.out h),M2.out.trans ((hbr.trans (hb5.mono hbr.size)).mono M2.out.size)⟩
 ·have HC:=Fi (show ko a b n=30 by unfold ko;rw[if_neg hck]);have hce:aB a b=30:=by unfold aB;rw[if_neg hck]
  rw[hce] at HCK;clear hce;go_wp2_with fail
  refine HCK.out.mono ?_;rintro e w2 ⟨rfl,hb2⟩;go_wp2;refine bodyPost_ret (v:=.tuple #[.slice none 0 0,.int .i64 30]) (by simp[results,Tryz.results17,go_sem]) rfl ⟨_,by rw[HC.out],(fun h=>by rw[HC.out] at h;cases h),(fun _=>rfl),M1.out.trans (hb2.mono M1.out.size)⟩
def cE (x:List ByteArray):Bool:=x.all fun s=>bU s.data.toList
theorem uH {x:List ByteArray}{i:Nat} (h:i<x.length):cE (x.take (i+1))=(cE (x.take i)&&bU (aF x i).data.toList):=by
 unfold cE;rw[jg h,ek]
theorem xX {x:List ByteArray}{i:Nat} (h:i<x.length) (hf:bU (aF x i).data.toList=false):cE x=false:=by
 unfold cE;exact nB h _ (by rw[ek];exact hf)
end Go.Proofs.YtbnkpcfjechfiaaGreatDoor
