/- L -/
import Derived.Test.YtlhpcoelfhjomaaGreatDoorQCoef
import Derived.Test.YtlhpcoelfhjomaaGreatDoorQNC4
import Derived.Test.YtlhpcoelfhjomaaGreatDoorQLP1
set_option linter.all false
set_option maxRecDepth 100000
set_option maxHeartbeats 8000000
namespace Go.Proofs.YtlhpcoelfhjomaaGreatDoor
open Go.RowKit Dg
def Gy (a b:List ByteArray) (w:World) (e:Ending) (w':World):Prop :=
 ∃ v err,e=.returned (.tuple #[v,.int .i64 err])/\((∃ pf,aC a b=true/\bA b=some pf/\err=0/\IsS w' v pf/\pf.length=b.length-1)\/(aC a b=true/\bA b=none/\err=31/\v=.slice none 0 0)\/(aC a b=false/\err=30/\v=.slice none 0 0))/\Below w.heap.size w w'
theorem Cn (v:Value) (a b:List ByteArray) (w:World) (hF:IsF w v a b) (hG:Gx w) :
  Calls Tryz.prog 37 #[v] w (Gy a b w):=by
 obtain⟨p,c,q,d,rfl,hfa,hfb⟩:=id hF.ex;go_enter Tryz.func37,Tryz.ntmps37;go_upto_region 1 with fail
 have cc:=aG w (.slice p a.length c) (.slice q b.length d);have m1:=aj w (.cells #[.slice p a.length c,.slice q b.length d] 24);have zz:=size_alloc w (.cells #[.slice p a.length c,.slice q b.length d] 24);generalize w.alloc (.cells #[.slice p a.length c,.slice q b.length d] 24)=w1 at *
 have HCK:=Ip (fP _ a b w1 (hF.below m1) (hG.below m1));have HA:=Ip (hfa.below m1);have HB:=Ip (hfb.below m1);have HG:=Ip (hG.below m1);have c0:=cc.1;have c1:=cc.2;have hlt:w.heap.size<w1.heap.size:=by omega
 have M1:=Ip m1;clear hfa hfb cc zz m1 hF hG;by_cases hck:aC a b=true
 ·have hce:aB a b=0:=by unfold aB;rw[if_pos hck]
  rw[hce] at HCK;obtain⟨ob1,ob7,oa1,oa7,oac,obc,ohd⟩:=bv hck;clear hce;go_wp2_with fail
  refine HCK.out.mono ?_;rintro e w2 ⟨rfl,hb2⟩;have d0:=ag hb2 hlt c0;have d1:=ag hb2 hlt c1;have HA2:=Ip (HA.out.below hb2);have HB2:=Ip (HB.out.below hb2);have HG2:=Ip (HG.out.below hb2);have M2:=Ip (LK M1.out hb2);have hlt2:w.heap.size<w2.heap.size:=Iz hlt hb2.size;clear c0 c1 HA HB HG HCK M1 hb2 hlt;have HS:=Ip (D6 _ b w2 HB2.out ob1 (by omega) HG2.out.g);have HC:=Ip hck;clear hck oac obc ohd ob1 ob7 oa1 oa7;go_wp2_with fail
  refine HS.out.mono ?_;rintro e w3 ⟨v3,ok,rfl,hcase,hb3⟩;rcases hcase with ⟨pf,hq,rfl,hp,hpl⟩ | ⟨hq,rfl,rfl⟩
  ·have HQ:=Ip hq;have HPL:=Ip hpl;obtain⟨p1,c1',rfl,-⟩:=id hp.form;clear hq hpl;go_wp2;refine LM (v:=.tuple #[.slice p1 pf.length c1',.int .i64 0]) (by simp[results,Tryz.results37,go_sem]) rfl ⟨_,_,rfl,Or.inl ⟨pf,HC.out,HQ.out,rfl,hp,HPL.out⟩,LK M2.out hb3⟩
  ·have HQ:=Ip hq;clear hq;go_wp2;refine LM (v:=.tuple #[.slice none 0 0,.int .i64 31]) (by simp[results,Tryz.results37,go_sem]) rfl ⟨_,_,rfl,Or.inr (Or.inl ⟨HC.out,HQ.out,rfl,rfl⟩),LK M2.out hb3⟩
 ·have HC:=Ip (show aC a b=false by simpa using hck);have hce:aB a b=30:=by unfold aB;rw[if_neg hck]
  rw[hce] at HCK;clear hce;go_wp2_with fail
  refine HCK.out.mono ?_;rintro e w2 ⟨rfl,hb2⟩;go_wp2;refine LM (v:=.tuple #[.slice none 0 0,.int .i64 30]) (by simp[results,Tryz.results37,go_sem]) rfl ⟨_,_,rfl,Or.inr (Or.inr ⟨HC.out,rfl,rfl⟩),LK M1.out hb2⟩
def sO (r:ByteArray):Bool:=bU r.data.toList&&!decide (jZ r ⟨#[48]⟩<=0)&&!decide (1<=jZ r ⟨#[49]⟩)
def bZ (a b:List ByteArray) (r:ByteArray):Bool×Int:=if aC a b=true then (if sO r=true then (cU b r,0) else (false,8)) else (false,30)
theorem E5 (v:Value) (a b:List ByteArray) (r:ByteArray) (w:World) (hF:IsF w v a b) (hG:Gx w) :
  Calls Tryz.prog 4 #[v,.string r] w fun e w'=>e=.returned (.tuple #[.bool (bZ a b r).1,.int .i64 (bZ a b r).2])/\Below w.heap.size w w':=by
 obtain⟨p,c,q,d,rfl,hfa,hfb⟩:=id hF.ex;go_enter Tryz.func4,Tryz.ntmps4;go_upto_region 1 with fail
 have cc:=aG w (.slice p a.length c) (.slice q b.length d);have m1:=aj w (.cells #[.slice p a.length c,.slice q b.length d] 24);have zz:=size_alloc w (.cells #[.slice p a.length c,.slice q b.length d] 24);generalize w.alloc (.cells #[.slice p a.length c,.slice q b.length d] 24)=w1 at *
 have HCK:=Ip (fP _ a b w1 (hF.below m1) (hG.below m1));have HA:=Ip (hfa.below m1);have HB:=Ip (hfb.below m1);have HG:=Ip (hG.below m1);have c0:=cc.1;have c1:=cc.2;have hlt:w.heap.size<w1.heap.size:=by omega
 have M1:=Ip m1;clear hfa hfb cc zz m1 hF hG;by_cases hck:aC a b=true
 ·have hce:aB a b=0:=by unfold aB;rw[if_pos hck]
  rw[hce] at HCK;obtain⟨ob1,ob7,oa1,oa7,oac,obc,ohd⟩:=bv hck;clear hce;go_wp2_with fail
  refine HCK.out.mono ?_;rintro e w2 ⟨rfl,hb2⟩;have d0:=ag hb2 hlt c0;have d1:=ag hb2 hlt c1;have HA2:=Ip (HA.out.below hb2);have HB2:=Ip (HB.out.below hb2);have HG2:=Ip (HG.out.below hb2);have M2:=Ip (LK M1.out hb2);have hlt2:w.heap.size<w2.heap.size:=Iz hlt hb2.size;clear c0 c1 HA HB HG HCK M1 hb2 hlt;have HC:=Ip hck;have HW:=Ip (fun wx (h:Below w2.heap.size w2 wx)=>Au _ b r wx (HB2.out.below h) ob1 (by omega) (HG2.out.below h).g);have HO:=Ip (rY r w2 HG2.out);have H0:=Ip (fun wx (h:Below w2.heap.size w2 wx)=>kY r ⟨#[48]⟩ wx (HG2.out.below h).g);have H1:=Ip (fun wx (h:Below w2.heap.size w2 wx)=>kY r ⟨#[49]⟩ wx (HG2.out.below h).g);clear hck oac obc ohd ob1 ob7 oa1 oa7;go_wp2_with fail
  refine HO.out.mono ?_;rintro e w3 ⟨bb,rfl,hbb,hb3⟩
  cases bb with
  | false =>
   have hwc:bZ a b r=(false,8):=by unfold bZ sO;rw[HC.out,hbb.out];rfl
   have HWC:=Ip hwc;clear hwc hbb;go_wp2;refine LM (v:=.tuple #[.bool false,.int .i64 8]) (by simp[results,Tryz.results4,go_sem]) rfl ⟨by rw[HWC.out],LK M2.out hb3⟩
  | true =>
   obtain⟨x,hx⟩:∃ x,x=jZ r ⟨#[48]⟩:=⟨_,rfl⟩;obtain⟨y,hy⟩:∃ y,y=jZ r ⟨#[49]⟩:=⟨_,rfl⟩;have hrad:sO r=(!decide (x<=0)&&!decide (1<=y)):=by unfold sO;rw[hbb.out,<-hx,<-hy];rfl
   rw[<-hx] at H0;rw[<-hy] at H1;have HR:=Ip hrad;clear hrad hx hy hbb HO;have H0:=Ip (H0.out w3 hb3);by_cases h0:x<=0
   ·have hd:decide (x<=0)=true:=decide_eq_true h0;have hwc:bZ a b r=(false,8):=by unfold bZ;rw[HC.out,HR.out,hd];rfl
    have HWC:=Ip hwc;clear hwc;go_wp2_with fail
    refine H0.out.mono ?_;rintro e w4 ⟨rfl,hb4⟩;go_wp2;refine LM (v:=.tuple #[.bool false,.int .i64 8]) (by simp[results,Tryz.results4,go_sem]) rfl ⟨by rw[HWC.out],LK M2.out (LK hb3 hb4)⟩
   ·have hd:decide (x<=0)=false:=decide_eq_false h0;go_wp2_with fail
    refine H0.out.mono ?_;rintro e w4 ⟨rfl,hb4⟩;have hB4:=LK hb3 hb4;go_wp2_with fail
    refine (H1.out w4 hB4).mono ?_;rintro e w5 ⟨rfl,hb5⟩;have hB5:=LK hB4 hb5;by_cases h1:0<y
    ·have hd1:decide (0<y)=true:=decide_eq_true h1;have hd2:decide (1<=y)=true:=decide_eq_true (by omega);have hwc:bZ a b r=(false,8):=by unfold bZ;rw[HC.out,HR.out,hd,hd2];rfl
     have HWC:=Ip hwc;clear hwc;go_wp2;refine LM (v:=.tuple #[.bool false,.int .i64 8]) (by simp[results,Tryz.results4,go_sem]) rfl ⟨by rw[HWC.out],LK M2.out hB5⟩
    ·have hd1:decide (0<y)=false:=decide_eq_false h1;have hd2:decide (1<=y)=false:=decide_eq_false (by omega);have hwc:bZ a b r=(cU b r,0):=by unfold bZ;rw[HC.out,HR.out,hd,hd2];rfl
     have HWC:=Ip hwc;have d1':=ag hB5 hlt2 d1;have HW5:=Ip (HW.out w5 hB5);clear hwc hd2 d0 d1;go_wp2_with fail
     refine HW5.out.mono ?_;rintro e w6 ⟨rfl,hb6⟩;go_wp2;refine LM (v:=.tuple #[.bool (cU b r),.int .i64 0]) (by simp[results,Tryz.results4,go_sem]) rfl ⟨by rw[HWC.out],LK M2.out (LK hB5 hb6)⟩
 ·have HC:=Ip (show aC a b=false by simpa using hck);have hwc:bZ a b r=(false,30):=by unfold bZ;rw[HC.out];rfl
  have HW:=Ip hwc;clear hwc;have hce:aB a b=30:=by unfold aB;rw[if_neg hck]
  rw[hce] at HCK;clear hce;go_wp2_with fail
  refine HCK.out.mono ?_;rintro e w2 ⟨rfl,hb2⟩;go_wp2;refine LM (v:=.tuple #[.bool false,.int .i64 30]) (by simp[results,Tryz.results4,go_sem]) rfl ⟨by rw[HW.out],LK M1.out hb2⟩
open Go.RowKit Dg Dc
def tq (q:Rat):ByteArray:=txt (CQ.real q)
def okQ (q:Rat):Prop:=eK (CQ.real q)=false
theorem mE (q:Rat):okQ q↔dt (rt q)=false:=by
 unfold okQ eK CQ.real;have h0:dt (rt 0)=false:=by rw[eQ];exact lh
 rw[h0,Bool.or_false]
theorem ua {q:Rat} (h1:q.num.natAbs<10 ^ 2000) (h2:q.den<10 ^ 2000):okQ q:=by
 rw[mE];unfold dt rt;have h3:=bK (k:=2000) (by decide) h1;have h4:=bK (k:=2000) (by decide) h2;simp only[J2,decide_eq_false_iff_not];omega
theorem DQ {q:Rat} (h:okQ q):q.num.natAbs<10 ^ 2000/\q.den<10 ^ 2000:=by
 have:=pz ((mE q).1 h) (dQ q);exact⟨this.n,this.d⟩
theorem iy {q:Rat} (h:okQ q):gJ (tq q)=some (CQ.real q):=si h
theorem nD {q:Rat} (h:okQ q):eB (CQ.real q)=(tq q,0):=by unfold eB;rw[if_neg (by rw[show eK (CQ.real q)=false from h];decide)];rfl
theorem Ee (a b:Rat):(CQ.real a).add (CQ.real b)=CQ.real (a+b):=by show (⟨a+b,0+0⟩:CQ)=⟨a+b,0⟩;rw[Rat.add_zero]
theorem Eh (a b:Rat):(CQ.real a).sub (CQ.real b)=CQ.real (a-b):=by show (⟨a-b,0-0⟩:CQ)=⟨a-b,0⟩;rw[show (0:Rat)-0=0 by grind]
theorem Eg (a b:Rat):(CQ.real a).mul (CQ.real b)=CQ.real (a*b):=by unfold CQ.real CQ.mul;congr 1<;>grind
theorem Ef (a b:Rat) (h:b≠0):(CQ.real a).div (CQ.real b)=CQ.real (a / b):=by unfold CQ.real CQ.div CQ.norm;congr 1<;>grind
theorem tC {a b:Rat} (ha:okQ a) (hb:okQ b) (h:okQ (a+b)):iH (tq a) (tq b)=tq (a+b):=by
 unfold iH dI gS;rw[iy ha,iy hb];simp only[if_true];rw[Ee,nD h]
theorem uA {a b:Rat} (ha:okQ a) (hb:okQ b) (h:okQ (a-b)):iY (tq a) (tq b)=tq (a-b):=by
 unfold iY dI gS;rw[iy ha,iy hb];simp only[if_true];rw[Eh,nD h]
theorem iR {a b:Rat} (ha:okQ a) (hb:okQ b) (h:okQ (a*b)):d_ (tq a) (tq b)=tq (a*b):=by
 unfold d_ dI gS;rw[iy ha,iy hb];simp only[if_true];rw[Eg,nD h]
theorem jB {a b:Rat} (ha:okQ a) (hb:okQ b) (hne:b≠0) (h:okQ (a / b)):dw (tq a) (tq b)=tq (a / b):=by
 unfold dw dI vy;rw[iy ha,iy hb];have hn:CQ.real b≠⟨0,0⟩:=fun e=>hne (congrArg CQ.re e);simp only[if_neg hn,if_true];rw[Ef a b hne,nD h]
theorem oR {a b:Rat} (ha:okQ a) (hb:okQ b):jZ (tq a) (tq b)=eL a b:=by
 unfold jZ uX fV;simp only[allC,iy ha,iy hb,jM];simp[CQ.real]
theorem kH:tq 1=⟨#[49]⟩:=by
 unfold tq txt
 have e:bX (ct (CQ.real 1))=[49]:=by
  rw[dE (z:=ct (CQ.real 1)) (by show (rt 0).n=0;rw[eQ])]
  show aK ⟨false,1,1⟩=_
  unfold aK;rw[ez (show 1<10 by decide)];rfl
 rw[e]
theorem F8:tq 0=⟨#[48]⟩:=by
 unfold tq txt
 have e:bX (ct (CQ.real 0))=[48]:=by
  rw[dE (z:=ct (CQ.real 0)) (by show (rt 0).n=0;rw[eQ])]
  show aK (rt 0)=_
  rw[eQ];unfold aK;rw[ez (show 0<10 by decide)];rfl
 rw[e]
theorem y9:tq (-1)=⟨#[45,49]⟩:=by
 unfold tq txt
 have e:bX (ct (CQ.real (-1)))=[45,49]:=by
  rw[dE (z:=ct (CQ.real (-1))) (by show (rt 0).n=0;rw[eQ])]
  show aK ⟨true,1,1⟩=_
  unfold aK;rw[ez (show 1<10 by decide)];rfl
 rw[e]
theorem Hd (k:Nat) (h:k≠0):1<10 ^ k:=Nat.one_lt_pow h (by decide)
theorem lj:(1:Nat)<10 ^ 2000:=Hd 2000 (by decide)
theorem fe:okQ 1:=ua lj lj
theorem eX:okQ 0:=ua (Nat.lt_trans Nat.zero_lt_one lj) lj
theorem wt:okQ (-1):=ua lj lj
theorem lO {k:Rat} (h:okQ k):fD (tq k)=(decide (-1<k)&&decide (k<1)):=by
 unfold fD;rw[<-y9,<-kH,oR h wt,oR h fe];unfold eL;by_cases h1:k=-1
 ·subst h1;decide
 ·by_cases h2:k < -1
  ·have h3:¬ (-1<k):=by grind
   simp[h1,h2,h3]
  ·have h3:-1<k:=by grind
   by_cases h4:k=1
   ·subst h4;simp[h1,h2]
   ·by_cases h5:k<1
    ·simp[h1,h2,h3,h4,h5]
    ·simp[h1,h2,h3,h4,h5]
theorem FK {s:ByteArray} (h:iT s.data.toList=true):∃ q,s=tq q/\okQ q:=by
 unfold iT at h
 cases hg:ix s.data.toList with
 | none=>rw[hg] at h;cases h
 | some z =>
  rw[hg] at h;obtain⟨q,rfl,-,-,h3,h4⟩:=jD hg;have him:q.im=0:=(bB _).1 (of_decide_eq_true h);have e:q=CQ.real q.re:=by cases q;simp only at him;subst him;rfl
  rw[e] at h3 h4;exact⟨q.re,h4.symm,h3⟩
theorem zu {s:ByteArray} (h:bU s.data.toList=true):∃ q,s=tq q/\okQ q:=by
 unfold bU at h;simp only[IR] at h;exact FK h.1
theorem CW {s:ByteArray} (h:bU s.data.toList=true):dw s ⟨#[49]⟩=s:=by
 obtain⟨q,rfl,hq⟩:=zu h;have e:q / 1=q:=by grind
 rw[<-kH,jB hq fe (by decide) (by rw[e];exact hq),e]
theorem DJ:d_ ⟨#[49]⟩ ⟨#[49]⟩=⟨#[49]⟩:=by
 have e:(1:Rat)*1=1:=by grind
 rw[<-kH,iR fe fe (by rw[e];exact fe),e]
def ofT (n:Nat):ByteArray:=(eB (CQ.real (mkRat n 64))).1
theorem Fz:ofT 64=⟨#[49]⟩:=by
 have e:mkRat ((64:Nat):Int) 64=1:=by decide +kernel
 unfold ofT;rw[e,nD fe,kH]
theorem qR:∀ i,kE ⟨#[49]⟩ i=⟨#[49]⟩
 | 0=>rfl
 | i+1=>by unfold kE;rw[qR i,DJ]
theorem xz {b:List ByteArray} (h:∀ s∈b,bU s.data.toList=true):dH b ⟨#[49]⟩=b:=by
 refine List.ext_getElem (by simp[dH]) fun i h1 h2=>?_;simp only[dH,JT,List.getElem_range,qR];rw[<-fG h2,CW (h _ (IS h2))]
def E4 (a b:List ByteArray) (w:World) (e:Ending) (w':World):Prop :=
  ∃ n err,e=.returned (.tuple #[.int .i64 n,.int .i64 err]) /\
    ((aC a b=true/\(bA b).isSome=true/\err=0/\∃ k:Nat,n=k/\1<=k/\k<=64/\cU b (ofT k)=true/\∀ m,1<=m->m<k->cU b (ofT m)=false) \/
     (aC a b=true/\(bA b).isSome=false/\err=31/\n=0)\/(aC a b=false/\err=30/\n=0))/\Below w.heap.size w w'
theorem zg (v:Value) (a b:List ByteArray) (w:World) (hF:IsF w v a b) (hG:Gx w) :
  Calls Tryz.prog 6 #[v] w (E4 a b w):=by
 obtain⟨p,c,q,d,rfl,hfa,hfb⟩:=id hF.ex;go_enter Tryz.func6,Tryz.ntmps6;go_upto_region 1 with fail
 have cc:=aG w (.slice p a.length c) (.slice q b.length d);have m1:=aj w (.cells #[.slice p a.length c,.slice q b.length d] 24);have zz:=size_alloc w (.cells #[.slice p a.length c,.slice q b.length d] 24);generalize w.alloc (.cells #[.slice p a.length c,.slice q b.length d] 24)=w1 at *
 have HCK:=Ip (fP _ a b w1 (hF.below m1) (hG.below m1));have HA:=Ip (hfa.below m1);have HB:=Ip (hfb.below m1);have HG:=Ip (hG.below m1);have c0:=cc.1;have c1:=cc.2;have hlt:w.heap.size<w1.heap.size:=by omega
 have M1:=Ip m1;clear hfa hfb cc zz m1 hF hG;by_cases hck:aC a b=true
 ·have hce:aB a b=0:=by unfold aB;rw[if_pos hck]
  rw[hce] at HCK;obtain⟨ob1,ob7,oa1,oa7,oac,obc,ohd⟩:=bv hck;clear hce;go_wp2_with fail
  refine HCK.out.mono ?_;rintro e w2 ⟨rfl,hb2⟩;have d0:=ag hb2 hlt c0;have d1:=ag hb2 hlt c1;have HA2:=Ip (HA.out.below hb2);have HB2:=Ip (HB.out.below hb2);have HG2:=Ip (HG.out.below hb2);have M2:=Ip (LK M1.out hb2);have hlt2:w.heap.size<w2.heap.size:=Iz hlt hb2.size;clear c0 c1 HA HB HG HCK M1 hb2 hlt;have HS:=Ip (oZ _ b w2 HB2.out ob1 (by omega) HG2.out.g);have HC:=Ip hck;have HOC:=Ip obc;have HOB:=Ip (And.intro ob1 ob7);clear hck oac obc ohd ob1 ob7 oa1 oa7;by_cases hst:(bA b).isSome=true
  ·rw[hst] at HS;have HST:=Ip hst;have HW1:=Ip (show cU b (ofT 64)=true by unfold cU;rw[Fz,xz HOC.out];exact hst);clear hst;go_wp2_with fail
   refine HS.out.mono ?_;rintro e w3 ⟨rfl,hb3⟩;go_wp2;go_loopw [5] (fun s5 wr=>∃ n:Nat,s5=.int .i64 n/\1<=n/\n<=64/\Hid (∀ m,1<=m->m<n->cU b (ofT m)=false)/\Below w2.heap.size w2 wr) (fun s5 _=>64-(intOf s5).toNat)
   case atStart=>exact⟨1,rfl,Iw _,by decide,fun m h1 h2=>by omega,hb3⟩
   case round =>
    clear hb3;obtain⟨n,rfl,hn1,hn2,hall,hbr⟩:=hrel;go_wp2_with fail
    have hof:=Ii (n:Int) 64 wr (by omega) (by omega) (by decide) (by decide) (HG2.out.below hbr).g;refine hof.mono ?_;clear hof;rintro e w4 ⟨rfl,hb4⟩;have hB4:=LK hbr hb4;have d1':=ag hB4 hlt2 d1;obtain⟨rr,hrr⟩:∃ r,r=ofT n:=⟨_,rfl⟩;rw[show (eB (CQ.real (mkRat (n:Int) 64))).1=rr from hrr.symm];obtain⟨ww,hww⟩:∃ x,x=cU b rr:=⟨_,rfl⟩;have hwi:=Au _ b rr w4 (HB2.out.below hB4) HOB.out.1 (by have:=HOB.out.2;omega) (HG2.out.below hB4).g;rw[<-hww] at hwi;have HWI:=Ip hwi;have hwn:cU b (ofT n)=ww:=by rw[hww,hrr]
    have HWN:=Ip hwn;clear hwi hww hrr hb4 hbr hwn;go_wp2_with fail
    refine HWI.out.mono ?_;rintro e w5 ⟨rfl,hb5⟩;have hB5:=LK hB4 hb5
    cases ww with
    | true =>
     clear hb5;go_wp2;refine LM (v:=.tuple #[.int .i64 n,.int .i64 0]) (by simp[results,Tryz.results6,go_sem]) rfl ⟨_,_,rfl,Or.inl ⟨HC.out,HST.out,rfl,n,rfl,hn1,hn2,HWN.out,hall.out⟩,LK M2.out hB5⟩
    | false =>
     have hlt:n<64:=by
      rcases JD n 64 with h | h
      ·exact h
      ·have h64:n=64:=by omega
       have h1:=HWN.out;rw[h64,HW1.out] at h1
       cases h1
     have hall2:Hid (∀ m,1<=m->m<n+1->cU b (ofT m)=false):=fun m h1 h2=>by
      by_cases hm:m=n
      ·subst hm;exact HWN.out
      ·exact hall.out m h1 (by omega)
     clear hall hb5;go_wp2;go_roundw;case rel=>exact⟨n+1,by go_num,by omega,by omega,hall2,hB5⟩
     case measure=>simp[intOf]<;>omega
  ·have hst':(bA b).isSome=false:=by simpa using hst
   rw[hst'] at HS;have HST:=Ip hst';clear hst hst';go_wp2_with fail
   refine HS.out.mono ?_;rintro e w3 ⟨rfl,hb3⟩;go_wp2;refine LM (v:=.tuple #[.int .i64 0,.int .i64 31]) (by simp[results,Tryz.results6,go_sem]) rfl ⟨_,_,rfl,Or.inr (Or.inl ⟨HC.out,HST.out,rfl,rfl⟩),LK M2.out hb3⟩
 ·have HC:=Ip (show aC a b=false by simpa using hck);have hce:aB a b=30:=by unfold aB;rw[if_neg hck]
  rw[hce] at HCK;clear hce;go_wp2_with fail
  refine HCK.out.mono ?_;rintro e w2 ⟨rfl,hb2⟩;go_wp2;refine LM (v:=.tuple #[.int .i64 0,.int .i64 30]) (by simp[results,Tryz.results6,go_sem]) rfl ⟨_,_,rfl,Or.inr (Or.inr ⟨HC.out,rfl,rfl⟩),LK M1.out hb2⟩
def inT (a x:List ByteArray) (t:Nat):Nat->ByteArray
 | 0=>⟨#[48]⟩
 | k+1=>if k<=t then iH (inT a x t k) (d_ (aD a k) (aD x (t-k))) else inT a x t k
def ue (b y:List ByteArray) (t:Nat) (n:ByteArray):Nat->ByteArray
 | 0=>n
 | k+1=>if 0<k/\k<=t then iY (ue b y t n k) (d_ (aD b k) (aD y (t-k))) else ue b y t n k
def uw (a b x y:List ByteArray) (t:Nat):ByteArray:=ue b y t (inT a x t a.length) b.length
def fH (a b x:List ByteArray):Nat->List ByteArray
 | 0=>[]
 | t+1=>fH a b x t++[uw a b x (fH a b x t) t]
theorem n_ (a b x:List ByteArray):∀ t,(fH a b x t).length=t
 | 0=>rfl
 | t+1=>by unfold fH;rw[IG,n_ a b x t];rfl
theorem IsS.all {w:World}{p:Option Addr}{n c:Nat}{l:List ByteArray} (h:IsS w (.slice p n c) l) (h0:0<l.length):∃ b o,p=some ⟨b,o,none⟩/\b<w.heap.size/\∀ k,k<l.length->w.cell? ⟨b,o+k,none⟩=some (.string (aD l k)):=by
 obtain⟨b,o,rfl,hlt,-⟩:=h.get h0;refine⟨b,o,rfl,hlt,fun k hk=>?_⟩;obtain⟨b',o',e,-,hc⟩:=h.get hk;obtain⟨rfl,rfl⟩:b=b'/\o=o':=by simpa using e
 rw[hc,fG]
theorem FC (v vx:Value) (a b x:List ByteArray) (w:World) (hF:IsF w v a b) (hx:IsS w vx x) (ha0:0<a.length) (hb0:0<b.length) (ha:a.length<1000) (hb:b.length<1000) (hxl:x.length<1000) (hG:Gw w) :
  Calls Tryz.prog 76 #[v,vx] w fun e w'=>∃ u,e=.returned u/\IsS w' u (fH a b x x.length)/\Below w.heap.size w w':=by
 obtain⟨p,c,q,d,rfl,hfa,hfb⟩:=id hF.ex;obtain⟨px,cx,rfl,-⟩:=id hx.form;go_enter Tryz.func76,Tryz.ntmps76;go_upto_region 1 with fail
 have cc:=aG w (.slice p a.length c) (.slice q b.length d);have m1:=aj w (.cells #[.slice p a.length c,.slice q b.length d] 24);have zz:=size_alloc w (.cells #[.slice p a.length c,.slice q b.length d] 24);generalize w.alloc (.cells #[.slice p a.length c,.slice q b.length d] 24)=w1 at *
 obtain⟨ba,oa,rfl,hba,ca⟩:=(hfa.below m1).all ha0;obtain⟨bb,ob,rfl,hbb,cb⟩:=(hfb.below m1).all hb0;have HA:=Ip ca;have HB:=Ip cb;have HX:=Ip (hx.below m1);have HG:=Ip (hG.below m1);have C0:=Ip cc.1;have C1:=Ip cc.2;have hlt:w.heap.size<w1.heap.size:=by omega
 have M1:=Ip m1;clear hfa hfb cc zz m1 hF hG hx ca cb;go_wp2;go_loopw [5,14] (fun s5 s14 wr=>∃ t:Nat,s14=.int .i64 t/\t<=x.length/\dh wr w1.heap.size s5 (fH a b x t)/\Below w1.heap.size w1 wr) (fun _ s14 _=>x.length-(intOf s14).toNat)
 case atStart=>exact⟨0,rfl,IF _,dh.nil _ _,LN _ _⟩
 case round =>
  rename World=>wo;obtain⟨t,rfl,htn,hown,hbr⟩:=hrel;by_cases ht:t<x.length
  ·obtain⟨py,cy,rfl,-⟩:=id hown.isS.form;obtain⟨bx,ox,rfl,hbx,cx'⟩:=HX.out.all (by omega);have CX:=Ip cx';have d0:=ag hbr hlt C0.out;obtain⟨y,hy⟩:∃ y,y=fH a b x t:=⟨_,rfl⟩;have hyl:y.length=t:=by rw[hy,n_]
   have HY:=Ip hy;rw[<-hy] at hown |-;rw[hyl];have HYL:=Ip hyl;have HOWN:=Ip hown;have HBR:=Ip hbr;clear hy hyl hown cx' hbr;go_wp2;go_loopw [7,20] (fun s7 s20 wr2=>∃ k:Nat,s7=.string (inT a x t k)/\s20=.int .i64 k/\k<=a.length/\Below wo.heap.size wo wr2) (fun _ s20 _=>a.length-(intOf s20).toNat)
   case atStart=>exact⟨0,rfl,rfl,IF _,LN _ _⟩
   case round =>
    clear d0;obtain⟨k,rfl,rfl,hkn,hbk⟩:=hrel;have hB1:=LK HBR.out hbk;by_cases hk:k<a.length
    ·have hc:=ag hB1 hba (HA.out k hk);by_cases hkt:k<=t
     ·have hdt:decide ((k:Int)<=(t:Int))=true:=by simp;omega
      have e1:(t:Int)-(k:Int)=((t-k:Nat):Int):=by omega
      have hx:=ag hB1 hbx (CX.out (t-k) (by omega));have HT:=Ip (show inT a x t (k+1)=iH (inT a x t k) (d_ (aD a k) (aD x (t-k))) by show (if k<=t then _ else _)=_;rw[if_pos hkt]);have hlx:t-k<x.length:=by omega
      go_wp2_with fail
      refine (gp _ _ wr (HG.out.below hB1)).mono ?_;rintro e w3 ⟨rfl,hb3⟩;go_wp2_with fail
      refine (mv _ _ w3 ((HG.out.below hB1).below hb3)).mono ?_;rintro e w4 ⟨rfl,hb4⟩;have hB4:=LK hbk (LK hb3 hb4);clear hc hx hb3 hb4 hbk hB1;go_wp2;go_roundw;case rel=>exact⟨k+1,by rw[HT.out],by go_num,by omega,hB4⟩
      case measure=>simp[intOf]<;>omega
     ·have hdt:decide ((k:Int)<=(t:Int))=false:=by simp;omega
      have HT:=Ip (show inT a x t (k+1)=inT a x t k by show (if k<=t then _ else _)=_;rw[if_neg hkt]);go_wp2;go_roundw;case rel=>exact⟨k+1,by rw[HT.out],by go_num,by omega,hbk⟩
      case measure=>simp[intOf]<;>omega
    ·have hk':k=a.length:=by omega
     subst hk';rename World=>w5;obtain⟨n0,hn0⟩:∃ n,n=inT a x t a.length:=⟨_,rfl⟩;rw[<-hn0];have HN0:=Ip hn0;have d1:=ag hB1 hlt C1.out;clear hn0 hk;go_wp2;go_loopw [7,42] (fun s7 s42 wr2=>∃ k:Nat,s7=.string (ue b y t n0 k)/\s42=.int .i64 k/\k<=b.length/\Below wo.heap.size wo wr2) (fun _ s42 _=>b.length-(intOf s42).toNat)
     case atStart=>exact⟨0,rfl,rfl,IF _,hbk⟩
     case round =>
      clear d1 hbk hB1;obtain⟨k,rfl,rfl,hkn,hbk⟩:=hrel;have hB1:=LK HBR.out hbk;by_cases hk:k<b.length
      ·have hc:=ag hB1 hbb (HB.out k hk);by_cases hkt:0<k/\k<=t
       ·have hd0:decide ((0:Int)<(k:Int))=true:=by simp;omega
        have hdt:decide ((k:Int)<=(t:Int))=true:=by simp;omega
        have e1:(t:Int)-(k:Int)=((t-k:Nat):Int):=by omega
        have HT:=Ip (show ue b y t n0 (k+1)=iY (ue b y t n0 k) (d_ (aD b k) (aD y (t-k))) by show (if 0<k/\k<=t then _ else _)=_;rw[if_pos hkt]);obtain⟨by',oy,rfl,hby,cy'⟩:=(HOWN.out.below hbk).isS.all (by rw[HYL.out];omega);have hy:=cy' (t-k) (by rw[HYL.out];omega);have hlx:t-k<t:=by omega
        clear cy';go_wp2_with fail
        refine (gp _ _ wr (HG.out.below hB1)).mono ?_;rintro e w3 ⟨rfl,hb3⟩;go_wp2_with fail
        refine (mC _ _ w3 ((HG.out.below hB1).below hb3)).mono ?_;rintro e w4 ⟨rfl,hb4⟩;have hB4:=LK hbk (LK hb3 hb4);clear hc hy hb3 hb4 hbk hB1;go_wp2;go_roundw;case rel=>exact⟨k+1,by rw[HT.out],by go_num,by omega,hB4⟩
        case measure=>simp[intOf]<;>omega
       ·have HT:=Ip (show ue b y t n0 (k+1)=ue b y t n0 k by show (if 0<k/\k<=t then _ else _)=_;rw[if_neg hkt]);by_cases hk0:0<k
        ·have hd0:decide ((0:Int)<(k:Int))=true:=by simp;omega
         have hdt:decide ((k:Int)<=(t:Int))=false:=by simp;omega
         go_wp2;go_roundw;case rel=>exact⟨k+1,by rw[HT.out],by go_num,by omega,hbk⟩
         case measure=>simp[intOf]<;>omega
        ·have hd0:decide ((0:Int)<(k:Int))=false:=by simp;omega
         go_wp2;go_roundw;case rel=>exact⟨k+1,by rw[HT.out],by go_num,by omega,hbk⟩
         case measure=>simp[intOf]<;>omega
      ·have hk':k=b.length:=by omega
       subst hk';have hs:ue b y t n0 b.length=uw a b x y t:=by rw[HN0.out];rfl
       rw[hs];have hw:dh wr w1.heap.size (.slice py t cy) y:=by have:=HOWN.out.below hbk;rwa [HYL.out] at this
       have hbs:=hB1.size;have hyl:y.length<1000000000:=by rw[HYL.out];omega
       have HS:=Ip (show fH a b x (t+1)=y++[uw a b x y t] by show fH a b x t++_=_;rw[<-HY.out]);clear hs hk;generalize Value.slice py t cy=v5 at hw |-;go_wp2_with (at_builtin;refine bR 22 Tryz.underlying22 rfl (.tmp 65) (.tmp 67) rfl w1.heap.size _ _ _ rfl hw rfl hyl hbs ?_)
       intro v' w6 hw6 hb6;have hB6:=hb6 _ _ hB1 (Iw _);rw[<-HS.out] at hw6;clear hw hb6 hB1 hbk hyl;go_wp2;go_roundw;case rel=>exact⟨t+1,by go_num,by omega,hw6,hB6⟩
       case measure=>simp[intOf]<;>omega
  ·have ht':t=x.length:=by omega
   subst ht';have hs:=hown.isS;obtain⟨q1,d1,rfl,-⟩:=id hs.form;clear ht hown;go_wp2;go_ret;exact⟨_,rfl,hs,LK M1.out hbr⟩
def iI (n:Nat):List ByteArray:=(List.range n).map fun i=>if i=0 then ⟨#[49]⟩ else ⟨#[48]⟩
theorem fC (n:Nat):(iI n).length=n:=by simp[iI]
theorem vR {n i:Nat} (h:i<(iI n).length):(iI n)[i]=if i=0 then ⟨#[49]⟩ else ⟨#[48]⟩:=by simp[iI]
theorem C_ {n i:Nat} (h:i<n) (h0:i≠0):(cj (iI n) i).set i ⟨#[48]⟩=cj (iI n) (i+1):=by
 have hl:i<(iI n).length:=by rw[fC];exact h
 have:=je (iI n) hl;rw[vR hl,if_neg h0] at this;exact this
theorem A4 {n:Nat} (h:0<n):((cj (iI n) 0).set 0 ⟨#[48]⟩).set 0 ⟨#[49]⟩=cj (iI n) 1:=by
 have hl:0<(iI n).length:=by rw[fC];exact h
 have:=je (iI n) hl;rw[vR hl,if_pos rfl] at this;rw[List.set_set];exact this
def Ci (e0:Int) (l:List ByteArray) (w:World) (e:Ending) (w':World):Prop :=
 ∃ v,e=.returned (.tuple #[v,.int .i64 e0])/\(e0=0->IsS w' v l)/\(e0≠0->v=.slice none 0 0)/\Below w.heap.size w w'
def lC (a b:List ByteArray) (n:Int):Int:=if aC a b=true then (if 0<=n/\n<=64 then 0 else 8) else 30
theorem AG (v:Value) (a b:List ByteArray) (n:Int) (w:World) (hF:IsF w v a b) (hG:Gx w) :
  Calls Tryz.prog 36 #[v,.int .i64 n] w (Ci (lC a b n) (fH a b (iI n.toNat) n.toNat) w):=by
 obtain⟨p,c,q,d,rfl,hfa,hfb⟩:=id hF.ex;go_enter Tryz.func36,Tryz.ntmps36;go_upto_region 1 with fail
 have cc:=aG w (.slice p a.length c) (.slice q b.length d);have m1:=aj w (.cells #[.slice p a.length c,.slice q b.length d] 24);have zz:=size_alloc w (.cells #[.slice p a.length c,.slice q b.length d] 24);generalize w.alloc (.cells #[.slice p a.length c,.slice q b.length d] 24)=w1 at *
 have HCK:=Ip (fP _ a b w1 (hF.below m1) (hG.below m1));have HA:=Ip (hfa.below m1);have HB:=Ip (hfb.below m1);have HG:=Ip (hG.below m1);have c0:=cc.1;have c1:=cc.2;have hlt:w.heap.size<w1.heap.size:=by omega
 have M1:=Ip m1;clear hfa hfb cc zz m1 hF hG;by_cases hck:aC a b=true
 ·have hce:aB a b=0:=by unfold aB;rw[if_pos hck]
  rw[hce] at HCK;obtain⟨ob1,ob7,oa1,oa7,oac,obc,ohd⟩:=bv hck;clear hce;go_wp2_with fail
  refine HCK.out.mono ?_;rintro e w2 ⟨rfl,hb2⟩;have d0:=ag hb2 hlt c0;have d1:=ag hb2 hlt c1;have HA2:=Ip (HA.out.below hb2);have HB2:=Ip (HB.out.below hb2);have HG2:=Ip (HG.out.below hb2);have M2:=Ip (LK M1.out hb2);have hlt2:w.heap.size<w2.heap.size:=Iz hlt hb2.size;clear c0 c1 HA HB HG HCK M1 hb2 hlt;have HC:=Ip hck;have HF2:=Ip (show IsF w2 (.agg #[.slice p a.length c,.slice q b.length d]) a b from⟨⟨p,c,q,d,rfl,HA2.out,HB2.out⟩⟩);have HLN:=Ip (And.intro oa1 (And.intro oa7 (And.intro ob1 ob7)));clear hck oac obc ohd ob1 ob7 oa1 oa7;by_cases hn0:n<0
  ·have hd:decide (n<0)=true:=decide_eq_true hn0;have he:lC a b n=8:=by unfold lC;rw[if_pos HC.out,if_neg (by omega)]
   have HE:=Ip he;clear he;go_wp2;refine LM (v:=.tuple #[.slice none 0 0,.int .i64 8]) (by simp[results,Tryz.results36,go_sem]) rfl ⟨_,by rw[HE.out],(fun h=>by rw[HE.out] at h;cases h),(fun _=>rfl),M2.out⟩
  ·have hd:decide (n<0)=false:=decide_eq_false hn0;by_cases hn1:64<n
   ·have hd1:decide (64<n)=true:=decide_eq_true hn1;have he:lC a b n=8:=by unfold lC;rw[if_pos HC.out,if_neg (by omega)]
    have HE:=Ip he;clear he;go_wp2;refine LM (v:=.tuple #[.slice none 0 0,.int .i64 8]) (by simp[results,Tryz.results36,go_sem]) rfl ⟨_,by rw[HE.out],(fun h=>by rw[HE.out] at h;cases h),(fun _=>rfl),M2.out⟩
   ·have hd1:decide (64<n)=false:=decide_eq_false hn1;have he:lC a b n=0:=by unfold lC;rw[if_pos HC.out,if_pos (by omega)]
    have HE:=Ip he;obtain⟨m,rfl⟩:∃ m:Nat,n=m:=⟨n.toNat,by omega⟩;have hm64:m<=64:=by omega
    clear he hn0 hn1;rw[Ko];go_wp2_with (at_make;refine dz 22 Tryz.underlying22 rfl (.tmp 20) (.tmp 20) rfl _ _ m rfl rfl rfl rfl (by omega) ?_)
    intro w3 hrow hb3 hs3;have hB3:=hb3 _ _ (LN _ _) (Iw _);have hr3:dO w3 w2.heap.size m (cj (iI m) 0):=by rw[iw,fC];exact hrow
    have hdr:=fun (_:Unit)=>hd;clear hrow hb3 hs3 hdr;go_wp2;go_loopw [24] (fun s24 wr=>∃ i:Nat,s24=.int .i64 i/\i<=m/\dO wr w2.heap.size m (cj (iI m) i)/\Below w2.heap.size w2 wr) (fun s24 _=>m-(intOf s24).toNat)
    case atStart=>exact⟨0,rfl,IF _,hr3,hB3⟩
    case round =>
     clear hr3 hB3;obtain⟨i,rfl,him,hr,hbr⟩:=hrel;by_cases hi:i<m
     ·have hl:i<(cj (iI m) i).length:=by rw[jd _ (by rw[fC];omega),fC];exact hi
      have rc:=hr.cell hl;have rf:=hr.free i;have s1:=hr.set i ⟨#[48]⟩;have hb1:=hbr.setCell (p:=⟨w2.heap.size,i,none⟩) (Iw _) (.string ⟨#[48]⟩);by_cases h0:i=0
      ·subst h0;have s2:=s1.set 0 ⟨#[49]⟩;rw[A4 hi] at s2;have hb2:=hb1.setCell (p:=⟨w2.heap.size,0,none⟩) (Iw _) (.string ⟨#[49]⟩);have rc2:=s1.cell (j:=0) (by simpa using hl);have rf2:=s1.free 0;clear s1 hb1;go_wp2;go_roundw;case rel=>exact⟨1,by go_num,by omega,s2,hb2⟩
       case measure=>simp[intOf]<;>omega
      ·have hz:((i:Int) == 0)=false:=by simp;omega
       rw[C_ hi h0] at s1;go_wp2;go_roundw;case rel=>exact⟨i+1,by go_num,by omega,s1,hb1⟩
       case measure=>simp[intOf]<;>omega
     ·have him':i=m:=by omega
      subst him';have hfull:cj (iI i) i=iI i:=by have:=iu (iI i);rwa [fC] at this
      rw[hfull] at hr;have hX:=hr.isS;rw[fC] at hX;have HO:=Ip (FC _ _ a b (iI i) wr (HF2.out.below hbr) hX HLN.out.1 HLN.out.2.2.1 (by have:=HLN.out.2.1;omega) (by have:=HLN.out.2.2.2;omega) (by rw[fC];omega) (HG2.out.below hbr).g);rw[fC] at HO;have d0':=ag hbr hlt2 d0;have d1':=ag hbr hlt2 d1;clear hfull hr hX d0 d1 hi;go_wp2_with fail
      refine HO.out.mono ?_;rintro e w5 ⟨u,rfl,hu,hb5⟩;obtain⟨pu,cu,rfl,-⟩:=id hu.form;go_wp2;refine LM (v:=.tuple #[.slice pu _ cu,.int .i64 0]) (by simp[results,Tryz.results36,go_sem];rfl) rfl ⟨_,by rw[HE.out],(fun _=>hu),(fun h=>absurd HE.out h),LK M2.out (LK hbr hb5)⟩
 ·have HC:=Ip (show lC a b n=30 by unfold lC;rw[if_neg hck]);have hce:aB a b=30:=by unfold aB;rw[if_neg hck]
  rw[hce] at HCK;clear hce;go_wp2_with fail
  refine HCK.out.mono ?_;rintro e w2 ⟨rfl,hb2⟩;go_wp2;refine LM (v:=.tuple #[.slice none 0 0,.int .i64 30]) (by simp[results,Tryz.results36,go_sem]) rfl ⟨_,by rw[HC.out],(fun h=>by rw[HC.out] at h;cases h),(fun _=>rfl),LK M1.out hb2⟩
def fQ (x:List ByteArray):Bool:=x.all fun s=>bU s.data.toList
theorem xQ {x:List ByteArray}{i:Nat} (h:i<x.length):fQ (x.take (i+1))=(fQ (x.take i)&&bU (aD x i).data.toList):=by
 unfold fQ;rw[j9 h,fG]
theorem AQ {x:List ByteArray}{i:Nat} (h:i<x.length) (hf:bU (aD x i).data.toList=false):fQ x=false:=by
 unfold fQ;exact pj h _ (by rw[fG];exact hf)
structure FnT (F:FuncId) (cap:Array Value) (φ:ByteArray->ByteArray) (w:World):Prop where
 en:∀ (args:Array Value) (w:World),(callFunc F args).run Tryz.prog w=.ok (.enter F args) w
 on:∀ (x:ByteArray) (w':World),Below w.heap.size w w'->Calls Tryz.prog F (#[.string x]++cap) w' fun e w''=>e=.returned (.string (φ x))/\Below w'.heap.size w' w''
theorem FnT.below {F:FuncId}{cap:Array Value}{φ:ByteArray->ByteArray}{w w':World} (h:FnT F cap φ w) (hb:Below w.heap.size w w'):FnT F cap φ w' :=
 ⟨h.en,fun x w'' hb'=>h.on x w'' (LK hb hb')⟩
theorem zB (v:Value) (l:List ByteArray) (F:FuncId) (cap:Array Value) (φ:ByteArray->ByteArray) (w:World) (hl:IsS w v l) (hlen:l.length<1000000) (hF:FnT F cap φ w) :
  Calls Tryz.prog 132 #[v,.func (.func F) #[] cap] w fun e w'=>∃ u,e=.returned u/\dh w' w.heap.size u (l.map φ)/\Below w.heap.size w w':=by
 obtain⟨p,c,rfl,-⟩:=id hl.form;have HL:=Ip hl;have HF:=Ip hF;have EN:=hF.en;clear hl hF;go_enter Tryz.func132,Tryz.ntmps132;go_wp2;go_loopw [5,10] (fun s5 s10 wr=>∃ i:Nat,s10=.int .i64 i/\i<=l.length/\dh wr w.heap.size s5 ((l.map φ).take i)/\Below w.heap.size w wr) (fun _ s10 _=>l.length-(intOf s10).toNat)
 case atStart=>exact⟨0,rfl,IF _,dh.nil _ _,LN _ _⟩
 case round =>
  obtain⟨i,rfl,hin,hown,hbr⟩:=hrel;by_cases hi:i<l.length
  ·obtain⟨b,o,rfl,hbl,hcs⟩:=(HL.out.below hbr).all (by omega);have hcell:=hcs i hi
   have HT:=Ip (show (l.map φ).take (i+1)=(l.map φ).take i++[φ (aD l i)] by
    rw[show (l.map φ).take (i+1)=(l.map φ).take i++[(l.map φ)[i]'(by simpa using hi)] from (IL _).symm,JT,fG])
   clear hcs;go_wp2_with fail
   refine (HF.out.on _ wr hbr).mono ?_;rintro e w1 ⟨rfl,hb1⟩;have hB1:=LK hbr hb1;have hw1:=hown.below hb1;have hbs:=hB1.size;have hzl:((l.map φ).take i).length<1000000000:=by simp;omega
   clear hb1 hbr hown hcell;go_wp2_with (at_builtin;refine bR 22 Tryz.underlying22 rfl (.tmp 14) (.tmp 18) rfl w.heap.size _ _ _ rfl hw1 rfl hzl hbs ?_)
   intro v' w2 hw2 hb2;have hB2:=hb2 _ _ hB1 (Iw _);rw[<-HT.out] at hw2;clear hw1 hb2 hB1;go_wp2;go_roundw;case rel=>exact⟨i+1,by go_num,by omega,hw2,hB2⟩
   case measure=>simp[intOf]<;>omega
  ·have hin':i=l.length:=by omega
   subst hin';have hw:=hown;rw[show (l.map φ).take l.length=l.map φ from IE (by simp)] at hw;clear hown hi;go_wp2;go_ret;exact⟨_,rfl,hw,hbr⟩
def fp (a b:List ByteArray):List ByteArray:=(List.range a.length).map fun i=>if i<b.length then iH (aD a i) (aD b i) else aD a i
def ln (a b:List ByteArray):List ByteArray:=if a.length<b.length then fp b a else fp a b
theorem fK (a b:List ByteArray):(fp a b).length=a.length:=by simp[fp]
theorem qZ (a b:List ByteArray):(ln a b).length=max a.length b.length:=by
 unfold ln
 split
 ·rw[fK];omega
 ·rw[fK];omega
theorem s_ (a b:List ByteArray) {i:Nat} (hi:i<a.length):(fp a b).take (i+1)=(fp a b).take i++[if i<b.length then iH (aD a i) (aD b i) else aD a i]:=by
 have hl:i<(fp a b).length:=by rw[fK];exact hi
 rw[show (fp a b).take (i+1)=(fp a b).take i++[(fp a b)[i]] from (IL hl).symm];simp[fp]
theorem sumN (va vb:Value) (a b:List ByteArray) (w:World) (ha:IsS w va a) (hb:IsS w vb b) (hal:a.length<1000000) (hbl:b.length<1000000) (hG:Gw w) :
  Calls Tryz.prog 171 #[va,vb,.func (.func 28) #[] #[]] w fun e w'=>∃ u,e=.returned u/\dh w' w.heap.size u (ln a b)/\Below w.heap.size w w':=by
 obtain⟨pa,xa,rfl,-⟩:=id ha.form;obtain⟨pb,xb,rfl,-⟩:=id hb.form;have HG:=Ip hG;go_enter Tryz.func171,Tryz.ntmps171;by_cases hlt:a.length<b.length
 ·have hd0:decide ((a.length:Int)<(b.length:Int))=true:=by simp;omega
  have hd1:decide (a.length<b.length)=true:=decide_eq_true hlt;have HS:=Ip (show ln a b=fp b a by unfold ln;rw[if_pos hlt]);clear hlt;go_wp2;go_loopw [7,19] (fun s7 s19 wr=>∃ i:Nat,s19=.int .i64 i/\i<=b.length/\dh wr w.heap.size s7 ((fp b a).take i)/\Below w.heap.size w wr) (fun _ s19 _=>b.length-(intOf s19).toNat)
  case atStart=>exact⟨0,rfl,IF _,dh.nil _ _,LN _ _⟩
  case round =>
   obtain⟨i,rfl,hin,hown,hbr⟩:=hrel;by_cases hi:i<b.length
   ·obtain⟨ba,oa,rfl,hba,hca⟩:=(hb.below hbr).all (by omega);have hc:=hca i hi;have HT:=Ip (s_ b a hi);clear hca;by_cases hib:i<a.length
    ·have hdb:decide ((i:Int)<((a.length:Nat):Int))=true:=by simp;omega
     obtain⟨bb,ob,rfl,hbb,hcb⟩:=(ha.below hbr).all (by omega);have hd:=hcb i hib;have HT:=Ip (show (fp b a).take (i+1)=(fp b a).take i++[iH (aD b i) (aD a i)] by rw[HT.out,if_pos hib]);clear hcb;go_wp2_with fail
     refine (mv _ _ wr (HG.out.below hbr)).mono ?_;rintro e w1 ⟨rfl,hb1⟩;have hB1:=LK hbr hb1;have hw1:=hown.below hb1;have hbs:=hB1.size;have hzl:((fp b a).take i).length<1000000000:=by have h1:=hbl;simp[fK];omega
     clear hb1 hbr hown hc hd;go_wp2_with (at_builtin;refine bR 22 Tryz.underlying22 rfl (.tmp 35) (.tmp 37) rfl w.heap.size _ _ _ rfl hw1 rfl hzl hbs ?_)
     intro v' w2 hw2 hb2;have hB2:=hb2 _ _ hB1 (Iw _);rw[<-HT.out] at hw2;clear hw1 hb2 hB1;go_wp2;go_roundw;case rel=>exact⟨i+1,by go_num,by omega,hw2,hB2⟩
     case measure=>simp[intOf]<;>omega
    ·have hdb:decide ((i:Int)<((a.length:Nat):Int))=false:=by simp;omega
     have HT:=Ip (show (fp b a).take (i+1)=(fp b a).take i++[aD b i] by rw[HT.out,if_neg hib]);have hbs:=hbr.size;have hzl:((fp b a).take i).length<1000000000:=by have h1:=hbl;simp[fK];omega
     go_wp2_with (at_builtin;refine bR 22 Tryz.underlying22 rfl (.tmp 35) (.tmp 37) rfl w.heap.size _ _ _ rfl hown rfl hzl hbs ?_)
     intro v' w2 hw2 hb2;have hB2:=hb2 _ _ hbr (Iw _);rw[<-HT.out] at hw2;clear hb2 hbr hc hown;go_wp2;go_roundw;case rel=>exact⟨i+1,by go_num,by omega,hw2,hB2⟩
     case measure=>simp[intOf]<;>omega
   ·have hin':i=b.length:=by omega
    subst hin';have hw:=hown;rw[show (fp b a).take b.length=fp b a from IE (by rw[fK];exact Iw _),<-HS.out] at hw;clear hown hi;go_wp2;go_ret;exact⟨_,rfl,hw,hbr⟩
 ·have hd0:decide ((a.length:Int)<(b.length:Int))=false:=by simp;omega
  have hd1:decide (a.length<b.length)=false:=decide_eq_false hlt;have HS:=Ip (show ln a b=fp a b by unfold ln;rw[if_neg hlt]);clear hlt;go_wp2;go_loopw [7,19] (fun s7 s19 wr=>∃ i:Nat,s19=.int .i64 i/\i<=a.length/\dh wr w.heap.size s7 ((fp a b).take i)/\Below w.heap.size w wr) (fun _ s19 _=>a.length-(intOf s19).toNat)
  case atStart=>exact⟨0,rfl,IF _,dh.nil _ _,LN _ _⟩
  case round =>
   obtain⟨i,rfl,hin,hown,hbr⟩:=hrel;by_cases hi:i<a.length
   ·obtain⟨ba,oa,rfl,hba,hca⟩:=(ha.below hbr).all (by omega);have hc:=hca i hi;have HT:=Ip (s_ a b hi);clear hca;by_cases hib:i<b.length
    ·have hdb:decide ((i:Int)<((b.length:Nat):Int))=true:=by simp;omega
     obtain⟨bb,ob,rfl,hbb,hcb⟩:=(hb.below hbr).all (by omega);have hd:=hcb i hib;have HT:=Ip (show (fp a b).take (i+1)=(fp a b).take i++[iH (aD a i) (aD b i)] by rw[HT.out,if_pos hib]);clear hcb;go_wp2_with fail
     refine (mv _ _ wr (HG.out.below hbr)).mono ?_;rintro e w1 ⟨rfl,hb1⟩;have hB1:=LK hbr hb1;have hw1:=hown.below hb1;have hbs:=hB1.size;have hzl:((fp a b).take i).length<1000000000:=by have h1:=hal;simp[fK];omega
     clear hb1 hbr hown hc hd;go_wp2_with (at_builtin;refine bR 22 Tryz.underlying22 rfl (.tmp 35) (.tmp 37) rfl w.heap.size _ _ _ rfl hw1 rfl hzl hbs ?_)
     intro v' w2 hw2 hb2;have hB2:=hb2 _ _ hB1 (Iw _);rw[<-HT.out] at hw2;clear hw1 hb2 hB1;go_wp2;go_roundw;case rel=>exact⟨i+1,by go_num,by omega,hw2,hB2⟩
     case measure=>simp[intOf]<;>omega
    ·have hdb:decide ((i:Int)<((b.length:Nat):Int))=false:=by simp;omega
     have HT:=Ip (show (fp a b).take (i+1)=(fp a b).take i++[aD a i] by rw[HT.out,if_neg hib]);have hbs:=hbr.size;have hzl:((fp a b).take i).length<1000000000:=by have h1:=hal;simp[fK];omega
     go_wp2_with (at_builtin;refine bR 22 Tryz.underlying22 rfl (.tmp 35) (.tmp 37) rfl w.heap.size _ _ _ rfl hown rfl hzl hbs ?_)
     intro v' w2 hw2 hb2;have hB2:=hb2 _ _ hbr (Iw _);rw[<-HT.out] at hw2;clear hb2 hbr hc hown;go_wp2;go_roundw;case rel=>exact⟨i+1,by go_num,by omega,hw2,hB2⟩
     case measure=>simp[intOf]<;>omega
   ·have hin':i=a.length:=by omega
    subst hin';have hw:=hown;rw[show (fp a b).take a.length=fp a b from IE (by rw[fK];exact Iw _),<-HS.out] at hw;clear hown hi;go_wp2;go_ret;exact⟨_,rfl,hw,hbr⟩
structure Off (g:Nat) (wa:World) where
 w:World
 s:wa.heap.size<=w.heap.size
 h:∀ k,k<wa.heap.size->k≠g->w.heap[k]?=wa.heap[k]?
instance instOff (g:Nat) (wa:World):Nonempty (Off g wa):=⟨⟨wa,Iw _,fun _ _ _=>rfl⟩⟩
theorem Off.cell {g:Nat}{wa:World} (x:Off g wa) {b o:Nat}{v:Value} (hb:b<wa.heap.size) (hne:b≠g) (hc:wa.cell? ⟨b,o,none⟩=some v):x.w.cell? ⟨b,o,none⟩=some v :=
 (World.cell?_of_block (w:=wa) (a:=⟨b,o,none⟩) (x.h b hb hne)).trans hc
theorem Off.below {g:Nat}{wa w':World} (h:Below wa.heap.size wa w'):∃ x:Off g wa,w'=x.w:=⟨⟨w',h.size,fun k hk _=>h.block k hk⟩,rfl⟩
theorem Off.set {g:Nat}{wa w':World} (h:∃ x:Off g wa,w'=x.w) (j:Nat) (u:Value):∃ x:Off g wa,w'.setCell ⟨g,j,none⟩ u=x.w:=by
 obtain⟨x,rfl⟩:=h;exact⟨⟨x.w.setCell ⟨g,j,none⟩ u,by simpa[World.setCell] using x.s,fun k hk hne=>(Below.heap_setCell x.w ⟨g,j,none⟩ u k hne).trans (x.h k hk hne)⟩,rfl⟩
structure oF (w:World) (v:Value) (fa fb ga gb:List ByteArray) (k:ByteArray) (n:Int):Prop where
 ex:∃ p c q d p' c' q' d',v=.agg #[.slice p fa.length c,.slice q fb.length d,.slice p' ga.length c',.slice q' gb.length d',.string k,.int .i64 n] /\
  IsS w (.slice p fa.length c) fa/\IsS w (.slice q fb.length d) fb/\IsS w (.slice p' ga.length c') ga/\IsS w (.slice q' gb.length d') gb
theorem oF.below {w w':World}{v:Value}{fa fb ga gb:List ByteArray}{k:ByteArray}{n:Int} (h:oF w v fa fb ga gb k n) (hb:Below w.heap.size w w'):oF w' v fa fb ga gb k n:=by
 obtain⟨p,c,q,d,p',c',q',d',e,h1,h2,h3,h4⟩:=h.ex;exact⟨⟨p,c,q,d,p',c',q',d',e,h1.below hb,h2.below hb,h3.below hb,h4.below hb⟩⟩
theorem au {w:World}{g:Nat}{a b:Value}{T:TypeId} (h:w.heap[g]?=some (.cells #[a,b] T (0,0))) (j:Nat):w.cell? ⟨g,j,none⟩=#[a,b][j]?:=by rw[World.cell?,h];rfl
theorem aU {w:World}{g:Nat}{a b:Value}{T:TypeId} (h:w.heap[g]?=some (.cells #[a,b] T (0,0))) (j:Nat):w.frozen? ⟨g,j,none⟩=false:=by rw[World.frozen?,h];simp
theorem el {w:World}{g:Nat}{a b:Value}{T:TypeId} (h:w.heap[g]?=some (.cells #[a,b] T (0,0))) (x y:Value):((w.setCell ⟨g,0,none⟩ x).setCell ⟨g,1,none⟩ y).heap[g]?=some (.cells #[x,y] T (0,0)):=by
 have h1:=heap_setCell_same w g 0 #[a,b] T x h;exact heap_setCell_same _ g 1 #[x,b] T y h1
theorem Cz (s:List ByteArray) (h0:0<s.length) (k:Nat) (p:Option Addr) (n c:Nat) (w:World) (hs:IsS w (.slice p n c) s) (hn:n=s.length) (hc:w.cell? ⟨k,0,none⟩=some (.slice p n c)) (hk:k<w.heap.size) (hG:Gw w) :
  FnT 172 #[.pointer (some ⟨k,0,none⟩)] (fun a=>dw a (aD s 0)) w:=by
 refine⟨cA Tryz.func172 rfl (by kernel_rfl),fun x w0 hw=>?_⟩;obtain⟨b,o,rfl,hlt,hcs⟩:=hs.all h0;have c0:=ag hw hk hc;have c1:w0.cell? ⟨b,o,none⟩=some (.string (aD s 0)):=by simpa using ag hw hlt (hcs 0 h0)
 have HD:=Ip (gT x (aD s 0) w0 (hG.below hw));have hnp:0<n:=by omega
 clear hcs hs hn
 show Calls _ _ #[_,.pointer (some ⟨k,0,none⟩)] _ _
 go_enter Tryz.func172,Tryz.ntmps172;go_wp2_with fail
 refine HD.out.mono ?_;rintro e w1 ⟨rfl,hb1⟩;go_wp2;go_ret;exact⟨rfl,hb1⟩
structure Gv (B:Nat) (w:World) (v:Value) (a b:List ByteArray):Prop where
 ex:∃ p c q d,v=.agg #[.slice p a.length c,.slice q b.length d]/\IsS w (.slice p a.length c) a/\IsS w (.slice q b.length d) b /\
  (∀ g,Value.ownBlock (.slice p a.length c)=some g->B<=g)/\(∀ g,Value.ownBlock (.slice q b.length d)=some g->B<=g)
def DB (e:Int):List PanicEntry:=[{ v:=.iface 155 (.agg #[.int .i64 e]),recovered:=false }]
def lY (r:Except Int (List ByteArray×List ByteArray)) (w:World) (e:Ending) (w':World):Prop :=
 Below w.heap.size w w'/\match r with
 | .ok (a,b)=>∃ v,e=.returned v/\Gv w.heap.size w' v a b
 | .error n=>e=.panicked (DB n)
def iq (l fa fb:List ByteArray):Except Int (List ByteArray×List ByteArray) :=
 if aD (ln fa fb) 0=⟨#[48]⟩ then .error 33 else .ok (l.map (fun a=>dw a (aD (ln fa fb) 0)),(ln fa fb).map (fun a=>dw a (aD (ln fa fb) 0)))
theorem uW (v vl:Value) (l fa fb ga gb:List ByteArray) (k:ByteArray) (n:Int) (w:World) (hP:oF w v fa fb ga gb k n) (hl:IsS w vl l) (hll:l.length<1000) (h1:0<fa.length) (h2:fa.length<1000) (h3:fb.length<1000) (hG:Gw w) :
  Calls Tryz.prog 128 #[v,vl] w (lY (iq l fa fb) w):=by
 obtain⟨p,c,q,d,p',c',q',d',rfl,hfa,hfb,-,-⟩:=id hP.ex;obtain⟨pl,cl,rfl,-⟩:=id hl.form;go_enter Tryz.func128,Tryz.ntmps128;go_upto_region 1 with fail
 have m1:=aj w (.cells #[.slice p fa.length c,.slice q fb.length d,.slice p' ga.length c',.slice q' gb.length d',.string k,.int .i64 n] 111);have z1:=size_alloc w (.cells #[.slice p fa.length c,.slice q fb.length d,.slice p' ga.length c',.slice q' gb.length d',.string k,.int .i64 n] 111);have a0:=aI w #[.slice p fa.length c,.slice q fb.length d,.slice p' ga.length c',.slice q' gb.length d',.string k,.int .i64 n] 111 0 _ rfl;have a1:=aI w #[.slice p fa.length c,.slice q fb.length d,.slice p' ga.length c',.slice q' gb.length d',.string k,.int .i64 n] 111 1 _ rfl;generalize w.alloc (.cells #[.slice p fa.length c,.slice q fb.length d,.slice p' ga.length c',.slice q' gb.length d',.string k,.int .i64 n] 111)=w1 at *
 have q2:(w1.alloc (.cells #[.slice none 0 0,.slice none 0 0] 24)).heap[w1.heap.size]?=some (.cells #[.slice none 0 0,.slice none 0 0] 24 (0,0)):=heap_alloc_new w1 _;have m2:=aj w1 (.cells #[.slice none 0 0,.slice none 0 0] 24);have z2:=size_alloc w1 (.cells #[.slice none 0 0,.slice none 0 0] 24);have b0:=ag m2 (show w.heap.size<w1.heap.size by omega) a0;have b1:=ag m2 (show w.heap.size<w1.heap.size by omega) a1;generalize w1.alloc (.cells #[.slice none 0 0,.slice none 0 0] 24)=w2 at *
 rw[z1] at q2;have M2:=Ip (LK m1 m2);have hz2:w.heap.size+1<w2.heap.size:=by omega
 have HS:=Ip (sumN _ _ fa fb w2 (hfa.below M2.out) (hfb.below M2.out) (by omega) (by omega) (hG.below M2.out));have HL:=Ip (hl.below M2.out);have HG:=Ip (hG.below M2.out);have hsl:0<(ln fa fb).length:=by rw[qZ];omega
 have hsl2:(ln fa fb).length<1000:=by rw[qZ];omega
 obtain⟨s,hs⟩:∃ s,s=ln fa fb:=⟨_,rfl⟩;rw[<-hs] at HS hsl hsl2;have HSE:=Ip hs;clear m1 z1 a0 a1 m2 z2 hfa hfb hl hG hP hs;go_wp2_with fail
 refine HS.out.mono ?_;rintro e w3 ⟨u,rfl,hu,hb3⟩
 obtain⟨b,o,hue,hub,hcs⟩:∃ b o,(∃ cu,u=.slice (some ⟨b,o,none⟩) s.length cu)/\b<w3.heap.size/\w3.cell? ⟨b,o,none⟩=some (.string (aD s 0)):=by
  obtain⟨pu,cu,rfl,-⟩:=id hu.isS.form;obtain⟨b,o,rfl,hlt,hc⟩:=hu.isS.all hsl;exact⟨b,o,⟨cu,rfl⟩,hlt,hc 0 hsl⟩
 obtain⟨cu,rfl⟩:=hue;have hIS:=hu.isS;clear hu;go_upto_region 2 with fail
 have a5:(w3.alloc (.cells #[.slice (some ⟨b,o,none⟩) s.length cu] 22)).cell? ⟨w3.heap.size,0,none⟩=some (.slice (some ⟨b,o,none⟩) s.length cu):=aI w3 _ _ 0 _ rfl;have m3:=aj w3 (.cells #[.slice (some ⟨b,o,none⟩) s.length cu] 22);have z3:=size_alloc w3 (.cells #[.slice (some ⟨b,o,none⟩) s.length cu] 22);generalize w3.alloc (.cells #[.slice (some ⟨b,o,none⟩) s.length cu] 22)=w4 at *
 have hcs4:=ag m3 hub hcs;have hb4:=LK hb3 m3;have M4:=Ip (LK M2.out hb4);have HIS:=Ip (hIS.below m3);have hw34:w3.heap.size<w4.heap.size:=by omega
 have hw23:w2.heap.size<=w3.heap.size:=hb3.size;have q4:=(hb4.block (w.heap.size+1) hz2).trans q2;have HL4:=Ip (HL.out.below hb4);have HG4:=Ip (HG.out.below hb4);clear HS hcs hIS q2 hb3 b0 b1 HL HG m3 z3;obtain⟨x,hx⟩:∃ x,x=aD s 0:=⟨_,rfl⟩;rw[<-hx] at hcs4;have HX:=Ip hx;clear hx;by_cases heq:x=⟨#[48]⟩
 ·have hd:(x.toList == [48])=true:=by rw[heq,aw];rfl
  have HC:=Ip (show iq l fa fb=.error 33 by unfold iq;rw[<-HSE.out,if_pos (by rw[<-HX.out];exact heq)]);clear heq;go_wp2_with fail
  refine⟨rfl,M4.out,?_⟩;rw[HC.out];rfl
 ·have hd:(x.toList == [48])=false:=by
   rw[Ji];intro h;refine heq (jy ?_);rw[<-aw];simpa using h
  have HC:=Ip (show iq l fa fb=.ok (l.map (fun a=>dw a (aD s 0)),s.map (fun a=>dw a (aD s 0))) by unfold iq;rw[<-HSE.out,if_neg (by rw[<-HX.out];exact heq)]);clear heq;go_upto_region 5 with fail
  have m5:Below w4.heap.size w4 w4.drew:=(LN _ _).drew;have HFn:=Ip ((Cz s hsl w3.heap.size (some ⟨b,o,none⟩) s.length cu w4 HIS.out rfl a5 hw34 HG4.out).below m5);refine av (fun w'=>∃ x:Off (w.heap.size+1) w4.drew,w'=x.w) (fun i=>i == 2||i == 5||i == 7) (by kernel_rfl) (by kernel_rfl) ⟨⟨_,Iw _,fun _ _ _=>rfl⟩,rfl⟩ ?_;have c5:=fun x:Off (w.heap.size+1) w4.drew=>x.cell (show w3.heap.size<w4.heap.size from hw34) (by omega) a5;have q5:=(m5.block (w.heap.size+1) (by omega)).trans q4;have M5:=Ip (LK M4.out m5);have HL5:=Ip (HL4.out.below m5);have HI5:=Ip (HIS.out.below m5);have hw5:w3.heap.size<w4.drew.heap.size:=hw34;clear m5 a5 hcs4 HIS HL4 q4;generalize w4.drew=wd at *
  refine ak 2 0 _ _ _ (by kernel_rfl) ?_;simp only[Ix,IC,Iy,IA];repeat (go_big_quiet_step (fail))
  refine wpQuiet_nil ?_;refine ap rfl rfl (fun K hK=>?_);go_simp;refine (zB _ l _ _ _ wd HL5.out (by omega) HFn.out).mono ?_;rintro e w6 ⟨u1,rfl,hu1,hb6⟩;obtain⟨L1,hL1⟩:∃ L,L=l.map (fun a=>dw a (aD s 0)):=⟨_,rfl⟩;rw[<-hL1] at hu1;have HL1:=Ip hL1;clear hL1;refine hK _ _ (Off.below hb6) ?_;clear hK K;try simp only[Act.put,It,Is,Ir,Iq,Iu,Iv]
  refine ak 2 3 _ _ _ (by kernel_rfl) ?_;simp only[Ix,IC,Iy,IA];repeat (go_big_quiet_step (fail))
  refine wpQuiet_nil ?_;refine ap rfl rfl (fun K hK=>?_);go_simp;refine (zB _ s _ _ _ w6 (HI5.out.below hb6) (by omega) (HFn.out.below hb6)).mono ?_;rintro e w7 ⟨u2,rfl,hu2,hb7⟩;obtain⟨L2,hL2⟩:∃ L,L=s.map (fun a=>dw a (aD s 0)):=⟨_,rfl⟩;rw[<-hL2] at hu2;have HL2:=Ip hL2;clear hL2;have hB7:=LK hb6 hb7;refine hK _ _ (Off.below hB7) ?_;clear hK K;try simp only[Act.put,It,Is,Ir,Iq,Iu,Iv]
  have hk1:=hu1.below hb7;obtain⟨p1,c1,rfl,-⟩:=id hk1.isS.form;obtain⟨p2,c2,rfl,-⟩:=id hu2.isS.form;have hn1:Value.ownBlock (.slice p1 L1.length c1)≠some (w.heap.size+1):=fun e=>by have:=(World.ownsRow.lt hk1 _ e).1;omega
  have hn2:Value.ownBlock (.slice p2 L2.length c2)≠some (w.heap.size+1):=fun e=>by have:=(World.ownsRow.lt hu2 _ e).1;have:=hb6.size;omega
  have o1:=Ip (show ∀ g,Value.ownBlock (.slice p1 L1.length c1)=some g->w.heap.size<=g from fun g e=>by have:=(World.ownsRow.lt hk1 _ e).1;omega);have o2:=Ip (show ∀ g,Value.ownBlock (.slice p2 L2.length c2)=some g->w.heap.size<=g from fun g e=>by have:=(World.ownsRow.lt hu2 _ e).1;have:=hb6.size;omega);have q7:=(hB7.block (w.heap.size+1) (by omega)).trans q5;have k0:=au q7 0;have k1:=au q7 1;have f0:=aU q7 0;have f1:=aU q7 1;have r1:=(hk1.isS.other hn1 0 (.slice p1 L1.length c1)).other hn1 1 (.slice p2 L2.length c2);have r2:=(hu2.isS.other hn2 0 (.slice p1 L1.length c1)).other hn2 1 (.slice p2 L2.length c2);have R1:=Ip r1;have R2:=Ip r2;have M7:=Ip (((LK M5.out hB7).setCell (p:=⟨w.heap.size+1,0,none⟩) (I1 _) (.slice p1 L1.length c1)).setCell (p:=⟨w.heap.size+1,1,none⟩) (I1 _) (.slice p2 L2.length c2));have hOff:=Off.set (g:=w.heap.size+1) (Off.set (g:=w.heap.size+1) (Off.below hB7) 0 (.slice p1 L1.length c1)) 1 (.slice p2 L2.length c2);have g0:=el q7 (.slice p1 L1.length c1) (.slice p2 L2.length c2);clear r1 r2 hn1 hn2 hk1 hu2 q7 q5 hB7 hb7 hb6 hu1;refine ak 1 6 _ _ _ (by kernel_rfl) ?_;simp only[Ix,IC,Iy,IA];repeat (go_big_quiet_step (fail))
  refine wpQuiet_nil ?_;refine ap rfl rfl (fun K hK=>?_);go_simp;refine hK undef _ hOff ?_;clear hK K;try simp only[Act.put,It,Is,Ir,Iq,Iu,Iv]
  refine aE ?_;have x0:=au g0 0;have x1:=au g0 1;go_wp2_with fail
  refine LM (v:=.agg #[.slice p1 L1.length c1,.slice p2 L2.length c2]) (by simp at x0 x1;simp[results,Tryz.results128,go_sem,x0,x1]) rfl ⟨M7.out,?_⟩;rw[HC.out,<-HL1.out,<-HL2.out];exact⟨_,rfl,⟨p1,c1,p2,c2,rfl,R1.out,R2.out,o1.out,o2.out⟩⟩
end Go.Proofs.YtlhpcoelfhjomaaGreatDoor
