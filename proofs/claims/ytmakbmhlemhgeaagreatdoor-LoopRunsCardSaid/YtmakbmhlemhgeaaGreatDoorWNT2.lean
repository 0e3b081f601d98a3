/- L -/
import Derived.Test.YtmakbmhlemhgeaaGreatDoorWCoef
import Derived.Test.YtmakbmhlemhgeaaGreatDoorWNC7
import Derived.Test.YtmakbmhlemhgeaaGreatDoorWNC8
import Derived.Test.YtmakbmhlemhgeaaGreatDoorWB
set_option linter.all false
set_option maxRecDepth 100000
set_option maxHeartbeats 8000000
namespace Go.Proofs.YtmakbmhlemhgeaaGreatDoor
open Go.RowKit Dg Dc
def tq (q:Rat):ByteArray:=txt (CQ.real q)
def okQ (q:Rat):Prop:=dE (CQ.real q)=false
theorem gC (q:Rat):okQ q↔b8 (rt q)=false:=by
 unfold okQ dE CQ.real;have h0:b8 (rt 0)=false:=by rw[dU];exact kG
 rw[h0,Bool.or_false]
theorem vT {q:Rat} (h1:q.num.natAbs<10 ^ 2000) (h2:q.den<10 ^ 2000):okQ q:=by
 rw[gC];unfold b8 rt;have h3:=bR (k:=2000) (by decide) h1;have h4:=bR (k:=2000) (by decide) h2;simp only[If,decide_eq_false_iff_not];omega
theorem B4 {q:Rat} (h:okQ q):q.num.natAbs<10 ^ 2000/\q.den<10 ^ 2000:=by
 have:=nK ((gC q).1 h) (dz q);exact⟨this.n,this.d⟩
theorem gW {q:Rat} (h:okQ q):fz (tq q)=some (CQ.real q):=ql h
theorem kg {q:Rat} (h:okQ q):dY (CQ.real q)=(tq q,0):=by unfold dY;rw[if_neg (by rw[show dE (CQ.real q)=false from h];decide)];rfl
theorem Cr (a b:Rat):(CQ.real a).add (CQ.real b)=CQ.real (a+b):=by show (⟨a+b,0+0⟩:CQ)=⟨a+b,0⟩;rw[Rat.add_zero]
theorem Cu (a b:Rat):(CQ.real a).sub (CQ.real b)=CQ.real (a-b):=by show (⟨a-b,0-0⟩:CQ)=⟨a-b,0⟩;rw[show (0:Rat)-0=0 by grind]
theorem Ct (a b:Rat):(CQ.real a).mul (CQ.real b)=CQ.real (a*b):=by unfold CQ.real CQ.mul;congr 1<;>grind
theorem Cs (a b:Rat) (h:b≠0):(CQ.real a).div (CQ.real b)=CQ.real (a / b):=by unfold CQ.real CQ.div CQ.norm;congr 1<;>grind
theorem DA {a b:Rat} (ha:okQ a) (hb:okQ b) (h:okQ (a+b)):jk (tq a) (tq b)=tq (a+b):=by
 unfold jk dq gl;rw[gW ha,gW hb];simp only[if_true];rw[Cr,kg h]
theorem Ev {a b:Rat} (ha:okQ a) (hb:okQ b) (h:okQ (a-b)):jC (tq a) (tq b)=tq (a-b):=by
 unfold jC dq gl;rw[gW ha,gW hb];simp only[if_true];rw[Cu,kg h]
theorem rP {a b:Rat} (ha:okQ a) (hb:okQ b) (h:okQ (a*b)):ek (tq a) (tq b)=tq (a*b):=by
 unfold ek dq gl;rw[gW ha,gW hb];simp only[if_true];rw[Ct,kg h]
theorem DQ {a b:Rat} (ha:okQ a) (hb:okQ b) (hne:b≠0) (h:okQ (a / b)):cX (tq a) (tq b)=tq (a / b):=by
 unfold cX dq pP;rw[gW ha,gW hb];have hn:CQ.real b≠⟨0,0⟩:=fun e=>hne (congrArg CQ.re e);simp only[if_neg hn,if_true];rw[Cs a b hne,kg h]
theorem mt:tq 1=⟨#[49]⟩:=by
 unfold tq txt
 have e:bE (ct (CQ.real 1))=[49]:=by
  rw[cz (z:=ct (CQ.real 1)) (by show (rt 0).n=0;rw[dU])]
  show aJ ⟨false,1,1⟩=_
  unfold aJ;rw[dec_lt (show 1<10 by decide)];rfl
 rw[e]
theorem EA:tq 0=⟨#[48]⟩:=by
 unfold tq txt
 have e:bE (ct (CQ.real 0))=[48]:=by
  rw[cz (z:=ct (CQ.real 0)) (by show (rt 0).n=0;rw[dU])]
  show aJ (rt 0)=_
  rw[dU];unfold aJ;rw[dec_lt (show 0<10 by decide)];rfl
 rw[e]
theorem FL (k:Nat) (h:k≠0):1<10 ^ k:=Nat.one_lt_pow h (by decide)
theorem nz:(1:Nat)<10 ^ 2000:=FL 2000 (by decide)
theorem iq:okQ 1:=vT nz nz
theorem tV:okQ 0:=vT (Nat.lt_trans Nat.zero_lt_one nz) nz
theorem Eg {s:ByteArray} (h:it s.data.toList=true):∃ q,s=tq q/\okQ q:=by
 unfold it at h
 cases hg:gV s.data.toList with
 | none=>rw[hg] at h;cases h
 | some z =>
  rw[hg] at h;obtain⟨q,rfl,-,-,h3,h4⟩:=jr hg;have him:q.im=0:=(bk _).1 (of_decide_eq_true h);have e:q=CQ.real q.re:=by cases q;simp only at him;subst him;rfl
  rw[e] at h3 h4;exact⟨q.re,h4.symm,h3⟩
theorem xj {s:ByteArray} (h:ce s.data.toList=true):∃ q,s=tq q/\okQ q:=by
 unfold ce at h;simp only[G9] at h;exact Eg h.1
theorem A4 {s:ByteArray} (h:ce s.data.toList=true):cX s ⟨#[49]⟩=s:=by
 obtain⟨q,rfl,hq⟩:=xj h;have e:q / 1=q:=by grind
 rw[<-mt,DQ hq iq (by decide) (by rw[e];exact hq),e]
theorem BS:ek ⟨#[49]⟩ ⟨#[49]⟩=⟨#[49]⟩:=by
 have e:(1:Rat)*1=1:=by grind
 rw[<-mt,rP iq iq (by rw[e];exact iq),e]
open Go.RowKit Dg
def ofT (n:Nat):ByteArray:=(dY (CQ.real (mkRat n 64))).1
theorem D9:ofT 64=⟨#[49]⟩:=by
 have e:mkRat ((64:Nat):Int) 64=1:=by decide +kernel
 unfold ofT;rw[e,kg iq,mt]
theorem oX:∀ i,mp ⟨#[49]⟩ i=⟨#[49]⟩
 | 0=>rfl
 | i+1=>by unfold mp;rw[oX i,BS]
theorem uU {b:List ByteArray} (h:∀ s∈b,ce s.data.toList=true):dK b ⟨#[49]⟩=b:=by
 refine List.ext_getElem (by simp[dK]) fun i h1 h2=>?_;simp only[dK,Ie,List.getElem_range,oX];rw[<-fQ h2,A4 (h _ (G7 h2))]
def Dw (a b:List ByteArray) (w:World) (e:Ending) (w':World):Prop :=
  ∃ n err,e=.returned (.tuple #[.int .i64 n,.int .i64 err]) /\
    ((aI a b=true/\(da b).isSome=true/\err=0/\∃ k:Nat,n=k/\1<=k/\k<=64/\fy b (ofT k)=true/\∀ m,1<=m->m<k->fy b (ofT m)=false) \/
     (aI a b=true/\(da b).isSome=false/\err=31/\n=0)\/(aI a b=false/\err=30/\n=0))/\Below w.heap.size w w'
theorem Dy (v:Value) (a b:List ByteArray) (w:World) (hF:IsF w v a b) (hG:Gx w) :
  Calls Tryz.prog 34 #[v] w (Dw a b w):=by
 obtain⟨p,c,q,d,rfl,hfa,hfb⟩:=id hF.ex;go_enter Tryz.func34,Tryz.ntmps34;go_upto_region 1 with fail
 have cc:=aU w (.slice p a.length c) (.slice q b.length d);have m1:=au w (.cells #[.slice p a.length c,.slice q b.length d] 34);have zz:=size_alloc w (.cells #[.slice p a.length c,.slice q b.length d] 34);generalize w.alloc (.cells #[.slice p a.length c,.slice q b.length d] 34)=w1 at *
 have HCK:=GF (fD _ a b w1 (hF.below m1) (hG.below m1));have HA:=GF (hfa.below m1);have HB:=GF (hfb.below m1);have HG:=GF (hG.below m1);have c0:=cc.1;have c1:=cc.2;have hlt:w.heap.size<w1.heap.size:=by omega
 have M1:=GF m1;clear hfa hfb cc zz m1 hF hG;by_cases hck:aI a b=true
 ·have hce:aG a b=0:=by unfold aG;rw[if_pos hck]
  rw[hce] at HCK;obtain⟨ob1,ob7,oa1,oa7,oac,obc,ohd⟩:=bv hck;clear hce;go_wp2_with fail
  refine HCK.out.mono ?_;rintro e w2 ⟨rfl,hb2⟩;have d0:=aj hb2 hlt c0;have d1:=aj hb2 hlt c1;have HA2:=GF (HA.out.below hb2);have HB2:=GF (HB.out.below hb2);have HG2:=GF (HG.out.below hb2);have M2:=GF (M1.out.trans (hb2.mono M1.out.size));have hlt2:w.heap.size<w2.heap.size:=GN hlt hb2.size;clear c0 c1 HA HB HG HCK M1 hb2 hlt;have HS:=GF (ny _ b w2 HB2.out ob1 (by omega) HG2.out.g);have HC:=GF hck;have HOC:=GF obc;have HOB:=GF (And.intro ob1 ob7);clear hck oac obc ohd ob1 ob7 oa1 oa7;by_cases hst:(da b).isSome=true
  ·rw[hst] at HS;have HST:=GF hst;have HW1:=GF (show fy b (ofT 64)=true by unfold fy;rw[D9,uU HOC.out];exact hst);clear hst;go_wp2_with fail
   refine HS.out.mono ?_;rintro e w3 ⟨rfl,hb3⟩;go_wp2;go_loopw [5] (fun s5 wr=>∃ n:Nat,s5=.int .i64 n/\1<=n/\n<=64/\Hid (∀ m,1<=m->m<n->fy b (ofT m)=false)/\Below w2.heap.size w2 wr) (fun s5 _=>64-(intOf s5).toNat)
   case atStart=>exact⟨1,rfl,GM _,by decide,fun m h1 h2=>by omega,hb3⟩
   case round =>
    clear hb3;obtain⟨n,rfl,hn1,hn2,hall,hbr⟩:=hrel;go_wp2_with fail
    have hof:=Gv (n:Int) 64 wr (by omega) (by omega) (by decide) (by decide) (HG2.out.below hbr).g;refine hof.mono ?_;clear hof;rintro e w4 ⟨rfl,hb4⟩;have hB4:=hbr.trans (hb4.mono hbr.size);have d1':=aj hB4 hlt2 d1;obtain⟨rr,hrr⟩:∃ r,r=ofT n:=⟨_,rfl⟩;rw[show (dY (CQ.real (mkRat (n:Int) 64))).1=rr from hrr.symm];obtain⟨ww,hww⟩:∃ x,x=fy b rr:=⟨_,rfl⟩;have hwi:=ED _ b rr w4 (HB2.out.below hB4) HOB.out.1 (by have:=HOB.out.2;omega) (HG2.out.below hB4).g;rw[<-hww] at hwi;have HWI:=GF hwi;have hwn:fy b (ofT n)=ww:=by rw[hww,hrr]
    have HWN:=GF hwn;clear hwi hww hrr hb4 hbr hwn;go_wp2_with fail
    refine HWI.out.mono ?_;rintro e w5 ⟨rfl,hb5⟩;have hB5:=hB4.trans (hb5.mono hB4.size)
    cases ww with
    | true =>
     clear hb5;go_wp2;refine Kh (v:=.tuple #[.int .i64 n,.int .i64 0]) (by simp[results,Tryz.results34,go_sem]) rfl ⟨_,_,rfl,Or.inl ⟨HC.out,HST.out,rfl,n,rfl,hn1,hn2,HWN.out,hall.out⟩,M2.out.trans (hB5.mono M2.out.size)⟩
    | false =>
     have hlt:n<64:=by
      rcases It n 64 with h | h
      ·exact h
      ·have h64:n=64:=by omega
       have h1:=HWN.out;rw[h64,HW1.out] at h1
       cases h1
     have hall2:Hid (∀ m,1<=m->m<n+1->fy b (ofT m)=false):=fun m h1 h2=>by
      by_cases hm:m=n
      ·subst hm;exact HWN.out
      ·exact hall.out m h1 (by omega)
     clear hall hb5;go_wp2;go_roundw;case rel=>exact⟨n+1,by go_num,by omega,by omega,hall2,hB5⟩
     case measure=>simp[intOf]<;>omega
  ·have hst':(da b).isSome=false:=by simpa using hst
   rw[hst'] at HS;have HST:=GF hst';clear hst hst';go_wp2_with fail
   refine HS.out.mono ?_;rintro e w3 ⟨rfl,hb3⟩;go_wp2;refine Kh (v:=.tuple #[.int .i64 0,.int .i64 31]) (by simp[results,Tryz.results34,go_sem]) rfl ⟨_,_,rfl,Or.inr (Or.inl ⟨HC.out,HST.out,rfl,rfl⟩),M2.out.trans (hb3.mono M2.out.size)⟩
 ·have HC:=GF (show aI a b=false by simpa using hck);have hce:aG a b=30:=by unfold aG;rw[if_neg hck]
  rw[hce] at HCK;clear hce;go_wp2_with fail
  refine HCK.out.mono ?_;rintro e w2 ⟨rfl,hb2⟩;go_wp2;refine Kh (v:=.tuple #[.int .i64 0,.int .i64 30]) (by simp[results,Tryz.results34,go_sem]) rfl ⟨_,_,rfl,Or.inr (Or.inr ⟨HC.out,rfl,rfl⟩),M1.out.trans (hb2.mono M1.out.size)⟩
def inT (a x:List ByteArray) (t:Nat):Nat->ByteArray
 | 0=>⟨#[48]⟩
 | k+1=>if k<=t then jk (inT a x t k) (ek (aT a k) (aT x (t-k))) else inT a x t k
def lJ (b y:List ByteArray) (t:Nat) (n:ByteArray):Nat->ByteArray
 | 0=>n
 | k+1=>if 0<k/\k<=t then jC (lJ b y t n k) (ek (aT b k) (aT y (t-k))) else lJ b y t n k
def nw (a b x y:List ByteArray) (t:Nat):ByteArray:=lJ b y t (inT a x t a.length) b.length
def cj (a b x:List ByteArray):Nat->List ByteArray
 | 0=>[]
 | t+1=>cj a b x t++[nw a b x (cj a b x t) t]
theorem ir (a b x:List ByteArray):∀ t,(cj a b x t).length=t
 | 0=>rfl
 | t+1=>by unfold cj;rw[GW,ir a b x t];rfl
theorem IsS.all {w:World}{p:Option Addr}{n c:Nat}{l:List ByteArray} (h:IsS w (.slice p n c) l) (h0:0<l.length):∃ b o,p=some ⟨b,o,none⟩/\b<w.heap.size/\∀ k,k<l.length->w.cell? ⟨b,o+k,none⟩=some (.string (aT l k)):=by
 obtain⟨b,o,rfl,hlt,-⟩:=h.get h0;refine⟨b,o,rfl,hlt,fun k hk=>?_⟩;obtain⟨b',o',e,-,hc⟩:=h.get hk;obtain⟨rfl,rfl⟩:b=b'/\o=o':=by simpa using e
 rw[hc,fQ]
theorem xT (v vx:Value) (a b x:List ByteArray) (w:World) (hF:IsF w v a b) (hx:IsS w vx x) (ha0:0<a.length) (hb0:0<b.length) (ha:a.length<1000) (hb:b.length<1000) (hxl:x.length<1000) (hG:Gw w) :
  Calls Tryz.prog 26 #[v,vx] w fun e w'=>∃ u,e=.returned u/\IsS w' u (cj a b x x.length)/\Below w.heap.size w w':=by
 obtain⟨p,c,q,d,rfl,hfa,hfb⟩:=id hF.ex;obtain⟨px,cx,rfl,-⟩:=id hx.form;go_enter Tryz.func26,Tryz.ntmps26;go_upto_region 1 with fail
 have cc:=aU w (.slice p a.length c) (.slice q b.length d);have m1:=au w (.cells #[.slice p a.length c,.slice q b.length d] 34);have zz:=size_alloc w (.cells #[.slice p a.length c,.slice q b.length d] 34);generalize w.alloc (.cells #[.slice p a.length c,.slice q b.length d] 34)=w1 at *
 obtain⟨ba,oa,rfl,hba,ca⟩:=(hfa.below m1).all ha0;obtain⟨bb,ob,rfl,hbb,cb⟩:=(hfb.below m1).all hb0;have HA:=GF ca;have HB:=GF cb;have HX:=GF (hx.below m1);have HG:=GF (hG.below m1);have C0:=GF cc.1;have C1:=GF cc.2;have hlt:w.heap.size<w1.heap.size:=by omega
 have M1:=GF m1;clear hfa hfb cc zz m1 hF hG hx ca cb;go_wp2;go_loopw [5,14] (fun s5 s14 wr=>∃ t:Nat,s14=.int .i64 t/\t<=x.length/\cR wr w1.heap.size s5 (cj a b x t)/\Below w1.heap.size w1 wr) (fun _ s14 _=>x.length-(intOf s14).toNat)
 case atStart=>exact⟨0,rfl,GY _,cR.nil _ _,Ki _ _⟩
 case round =>
  rename World=>wo;obtain⟨t,rfl,htn,hown,hbr⟩:=hrel;by_cases ht:t<x.length
  ·obtain⟨py,cy,rfl,-⟩:=id hown.isS.form;obtain⟨bx,ox,rfl,hbx,cx'⟩:=HX.out.all (by omega);have CX:=GF cx';have d0:=aj hbr hlt C0.out;obtain⟨y,hy⟩:∃ y,y=cj a b x t:=⟨_,rfl⟩;have hyl:y.length=t:=by rw[hy,ir]
   have HY:=GF hy;rw[<-hy] at hown |-;rw[hyl];have HYL:=GF hyl;have HOWN:=GF hown;have HBR:=GF hbr;clear hy hyl hown cx' hbr;go_wp2;go_loopw [7,20] (fun s7 s20 wr2=>∃ k:Nat,s7=.string (inT a x t k)/\s20=.int .i64 k/\k<=a.length/\Below wo.heap.size wo wr2) (fun _ s20 _=>a.length-(intOf s20).toNat)
   case atStart=>exact⟨0,rfl,rfl,GY _,Ki _ _⟩
   case round =>
    clear d0;obtain⟨k,rfl,rfl,hkn,hbk⟩:=hrel;have hB1:=HBR.out.trans (hbk.mono HBR.out.size);by_cases hk:k<a.length
    ·have hc:=aj hB1 hba (HA.out k hk);by_cases hkt:k<=t
     ·have hdt:decide ((k:Int)<=(t:Int))=true:=by simp;omega
      have e1:(t:Int)-(k:Int)=((t-k:Nat):Int):=by omega
      have hx:=aj hB1 hbx (CX.out (t-k) (by omega));have HT:=GF (show inT a x t (k+1)=jk (inT a x t k) (ek (aT a k) (aT x (t-k))) by show (if k<=t then _ else _)=_;rw[if_pos hkt]);have hlx:t-k<x.length:=by omega
      go_wp2_with fail
      refine (fP _ _ wr (HG.out.below hB1)).mono ?_;rintro e w3 ⟨rfl,hb3⟩;go_wp2_with fail
      refine (lG _ _ w3 ((HG.out.below hB1).below hb3)).mono ?_;rintro e w4 ⟨rfl,hb4⟩;have hB4:=hbk.trans ((hb3.trans (hb4.mono hb3.size)).mono hbk.size);clear hc hx hb3 hb4 hbk hB1;go_wp2;go_roundw;case rel=>exact⟨k+1,by rw[HT.out],by go_num,by omega,hB4⟩
      case measure=>simp[intOf]<;>omega
     ·have hdt:decide ((k:Int)<=(t:Int))=false:=by simp;omega
      have HT:=GF (show inT a x t (k+1)=inT a x t k by show (if k<=t then _ else _)=_;rw[if_neg hkt]);go_wp2;go_roundw;case rel=>exact⟨k+1,by rw[HT.out],by go_num,by omega,hbk⟩
      case measure=>simp[intOf]<;>omega
    ·have hk':k=a.length:=by omega
     subst hk';rename World=>w5;obtain⟨n0,hn0⟩:∃ n,n=inT a x t a.length:=⟨_,rfl⟩;rw[<-hn0];have HN0:=GF hn0;have d1:=aj hB1 hlt C1.out;clear hn0 hk;go_wp2;go_loopw [7,42] (fun s7 s42 wr2=>∃ k:Nat,s7=.string (lJ b y t n0 k)/\s42=.int .i64 k/\k<=b.length/\Below wo.heap.size wo wr2) (fun _ s42 _=>b.length-(intOf s42).toNat)
     case atStart=>exact⟨0,rfl,rfl,GY _,hbk⟩
     case round =>
      clear d1 hbk hB1;obtain⟨k,rfl,rfl,hkn,hbk⟩:=hrel;have hB1:=HBR.out.trans (hbk.mono HBR.out.size);by_cases hk:k<b.length
      ·have hc:=aj hB1 hbb (HB.out k hk);by_cases hkt:0<k/\k<=t
       ·have hd0:decide ((0:Int)<(k:Int))=true:=by simp;omega
        have hdt:decide ((k:Int)<=(t:Int))=true:=by simp;omega
        have e1:(t:Int)-(k:Int)=((t-k:Nat):Int):=by omega
        have HT:=GF (show lJ b y t n0 (k+1)=jC (lJ b y t n0 k) (ek (aT b k) (aT y (t-k))) by show (if 0<k/\k<=t then _ else _)=_;rw[if_pos hkt]);obtain⟨by',oy,rfl,hby,cy'⟩:=(HOWN.out.below hbk).isS.all (by rw[HYL.out];omega);have hy:=cy' (t-k) (by rw[HYL.out];omega);have hlx:t-k<t:=by omega
        clear cy';go_wp2_with fail
        refine (fP _ _ wr (HG.out.below hB1)).mono ?_;rintro e w3 ⟨rfl,hb3⟩;go_wp2_with fail
        refine (lH _ _ w3 ((HG.out.below hB1).below hb3)).mono ?_;rintro e w4 ⟨rfl,hb4⟩;have hB4:=hbk.trans ((hb3.trans (hb4.mono hb3.size)).mono hbk.size);clear hc hy hb3 hb4 hbk hB1;go_wp2;go_roundw;case rel=>exact⟨k+1,by rw[HT.out],by go_num,by omega,hB4⟩
        case measure=>simp[intOf]<;>omega
       ·have HT:=GF (show lJ b y t n0 (k+1)=lJ b y t n0 k by show (if 0<k/\k<=t then _ else _)=_;rw[if_neg hkt]);by_cases hk0:0<k
        ·have hd0:decide ((0:Int)<(k:Int))=true:=by simp;omega
         have hdt:decide ((k:Int)<=(t:Int))=false:=by simp;omega
         go_wp2;go_roundw;case rel=>exact⟨k+1,by rw[HT.out],by go_num,by omega,hbk⟩
         case measure=>simp[intOf]<;>omega
        ·have hd0:decide ((0:Int)<(k:Int))=false:=by simp;omega
         go_wp2;go_roundw;case rel=>exact⟨k+1,by rw[HT.out],by go_num,by omega,hbk⟩
         case measure=>simp[intOf]<;>omega
      ·have hk':k=b.length:=by omega
       subst hk';have hs:lJ b y t n0 b.length=nw a b x y t:=by rw[HN0.out];rfl
       rw[hs];have hw:cR wr w1.heap.size (.slice py t cy) y:=by have:=HOWN.out.below hbk;rwa [HYL.out] at this
       have hbs:=hB1.size;have hyl:y.length<1000000000:=by rw[HYL.out];omega
       have HS:=GF (show cj a b x (t+1)=y++[nw a b x y t] by show cj a b x t++_=_;rw[<-HY.out]);clear hs hk;generalize Value.slice py t cy=v5 at hw |-;go_wp2_with (at_builtin;refine bH 29 Tryz.underlying29 rfl (.tmp 65) (.tmp 67) rfl w1.heap.size _ _ _ rfl hw rfl hyl hbs ?_)
       intro v' w6 hw6 hb6;have hB6:=hb6 _ _ hB1 (GM _);rw[<-HS.out] at hw6;clear hw hb6 hB1 hbk hyl;go_wp2;go_roundw;case rel=>exact⟨t+1,by go_num,by omega,hw6,hB6⟩
       case measure=>simp[intOf]<;>omega
  ·have ht':t=x.length:=by omega
   subst ht';have hs:=hown.isS;obtain⟨q1,d1,rfl,-⟩:=id hs.form;clear ht hown;go_wp2;go_ret;exact⟨_,rfl,hs,M1.out.trans (hbr.mono M1.out.size)⟩
def fg (n:Nat):List ByteArray:=(List.range n).map fun i=>if i=0 then ⟨#[49]⟩ else ⟨#[48]⟩
theorem eF (n:Nat):(fg n).length=n:=by simp[fg]
theorem tC {n i:Nat} (h:i<(fg n).length):(fg n)[i]=if i=0 then ⟨#[49]⟩ else ⟨#[48]⟩:=by simp[fg]
theorem Bf {n i:Nat} (h:i<n) (h0:i≠0):(ci (fg n) i).set i ⟨#[48]⟩=ci (fg n) (i+1):=by
 have hl:i<(fg n).length:=by rw[eF];exact h
 have:=iI (fg n) hl;rw[tC hl,if_neg h0] at this;exact this
theorem zh {n:Nat} (h:0<n):((ci (fg n) 0).set 0 ⟨#[48]⟩).set 0 ⟨#[49]⟩=ci (fg n) 1:=by
 have hl:0<(fg n).length:=by rw[eF];exact h
 have:=iI (fg n) hl;rw[tC hl,if_pos rfl] at this;rw[List.set_set];exact this
def jO (e0:Int) (l:List ByteArray) (w:World) (e:Ending) (w':World):Prop :=
 ∃ v,e=.returned (.tuple #[v,.int .i64 e0])/\(e0=0->IsS w' v l)/\(e0≠0->v=.slice none 0 0)/\Below w.heap.size w w'
def eH (a b:List ByteArray) (n:Int):Int:=if aI a b=true then (if 0<=n/\n<=64 then 0 else 8) else 30
theorem pW (v:Value) (a b:List ByteArray) (n:Int) (w:World) (hF:IsF w v a b) (hG:Gx w) :
  Calls Tryz.prog 16 #[v,.int .i64 n] w (jO (eH a b n) (cj a b (fg n.toNat) n.toNat) w):=by
 obtain⟨p,c,q,d,rfl,hfa,hfb⟩:=id hF.ex;go_enter Tryz.func16,Tryz.ntmps16;go_upto_region 1 with fail
 have cc:=aU w (.slice p a.length c) (.slice q b.length d);have m1:=au w (.cells #[.slice p a.length c,.slice q b.length d] 34);have zz:=size_alloc w (.cells #[.slice p a.length c,.slice q b.length d] 34);generalize w.alloc (.cells #[.slice p a.length c,.slice q b.length d] 34)=w1 at *
 have HCK:=GF (fD _ a b w1 (hF.below m1) (hG.below m1));have HA:=GF (hfa.below m1);have HB:=GF (hfb.below m1);have HG:=GF (hG.below m1);have c0:=cc.1;have c1:=cc.2;have hlt:w.heap.size<w1.heap.size:=by omega
 have M1:=GF m1;clear hfa hfb cc zz m1 hF hG;by_cases hck:aI a b=true
 ·have hce:aG a b=0:=by unfold aG;rw[if_pos hck]
  rw[hce] at HCK;obtain⟨ob1,ob7,oa1,oa7,oac,obc,ohd⟩:=bv hck;clear hce;go_wp2_with fail
  refine HCK.out.mono ?_;rintro e w2 ⟨rfl,hb2⟩;have d0:=aj hb2 hlt c0;have d1:=aj hb2 hlt c1;have HA2:=GF (HA.out.below hb2);have HB2:=GF (HB.out.below hb2);have HG2:=GF (HG.out.below hb2);have M2:=GF (M1.out.trans (hb2.mono M1.out.size));have hlt2:w.heap.size<w2.heap.size:=GN hlt hb2.size;clear c0 c1 HA HB HG HCK M1 hb2 hlt;have HC:=GF hck;have HF2:=GF (show IsF w2 (.agg #[.slice p a.length c,.slice q b.length d]) a b from⟨⟨p,c,q,d,rfl,HA2.out,HB2.out⟩⟩);have HLN:=GF (And.intro oa1 (And.intro oa7 (And.intro ob1 ob7)));clear hck oac obc ohd ob1 ob7 oa1 oa7;by_cases hn0:n<0
  ·have hd:decide (n<0)=true:=decide_eq_true hn0;have he:eH a b n=8:=by unfold eH;rw[if_pos HC.out,if_neg (by omega)]
   have HE:=GF he;clear he;go_wp2;refine Kh (v:=.tuple #[.slice none 0 0,.int .i64 8]) (by simp[results,Tryz.results16,go_sem]) rfl ⟨_,by rw[HE.out],(fun h=>by rw[HE.out] at h;cases h),(fun _=>rfl),M2.out⟩
  ·have hd:decide (n<0)=false:=decide_eq_false hn0;by_cases hn1:64<n
   ·have hd1:decide (64<n)=true:=decide_eq_true hn1;have he:eH a b n=8:=by unfold eH;rw[if_pos HC.out,if_neg (by omega)]
    have HE:=GF he;clear he;go_wp2;refine Kh (v:=.tuple #[.slice none 0 0,.int .i64 8]) (by simp[results,Tryz.results16,go_sem]) rfl ⟨_,by rw[HE.out],(fun h=>by rw[HE.out] at h;cases h),(fun _=>rfl),M2.out⟩
   ·have hd1:decide (64<n)=false:=decide_eq_false hn1;have he:eH a b n=0:=by unfold eH;rw[if_pos HC.out,if_pos (by omega)]
    have HE:=GF he;obtain⟨m,rfl⟩:∃ m:Nat,n=m:=⟨n.toNat,by omega⟩;have hm64:m<=64:=by omega
    clear he hn0 hn1;rw[IE];go_wp2_with (at_make;refine dt 29 Tryz.underlying29 rfl (.tmp 20) (.tmp 20) rfl _ _ m rfl rfl rfl rfl (by omega) ?_)
    intro w3 hrow hb3 hs3;have hB3:=hb3 _ _ (Ki _ _) (GM _);have hr3:dD w3 w2.heap.size m (ci (fg m) 0):=by rw[gS,eF];exact hrow
    have hdr:=fun (_:Unit)=>hd;clear hrow hb3 hs3 hdr;go_wp2;go_loopw [24] (fun s24 wr=>∃ i:Nat,s24=.int .i64 i/\i<=m/\dD wr w2.heap.size m (ci (fg m) i)/\Below w2.heap.size w2 wr) (fun s24 _=>m-(intOf s24).toNat)
    case atStart=>exact⟨0,rfl,GY _,hr3,hB3⟩
    case round =>
     clear hr3 hB3;obtain⟨i,rfl,him,hr,hbr⟩:=hrel;by_cases hi:i<m
     ·have hl:i<(ci (fg m) i).length:=by rw[iH _ (by rw[eF];omega),eF];exact hi
      have rc:=hr.cell hl;have rf:=hr.free i;have s1:=hr.set i ⟨#[48]⟩;have hb1:=hbr.setCell (p:=⟨w2.heap.size,i,none⟩) (GM _) (.string ⟨#[48]⟩);by_cases h0:i=0
      ·subst h0;have s2:=s1.set 0 ⟨#[49]⟩;rw[zh hi] at s2;have hb2:=hb1.setCell (p:=⟨w2.heap.size,0,none⟩) (GM _) (.string ⟨#[49]⟩);have rc2:=s1.cell (j:=0) (by simpa using hl);have rf2:=s1.free 0;clear s1 hb1;go_wp2;go_roundw;case rel=>exact⟨1,by go_num,by omega,s2,hb2⟩
       case measure=>simp[intOf]<;>omega
      ·have hz:((i:Int) == 0)=false:=by simp;omega
       rw[Bf hi h0] at s1;go_wp2;go_roundw;case rel=>exact⟨i+1,by go_num,by omega,s1,hb1⟩
       case measure=>simp[intOf]<;>omega
     ·have him':i=m:=by omega
      subst him';have hfull:ci (fg i) i=fg i:=by have:=gR (fg i);rwa [eF] at this
      rw[hfull] at hr;have hX:=hr.isS;rw[eF] at hX;have HO:=GF (xT _ _ a b (fg i) wr (HF2.out.below hbr) hX HLN.out.1 HLN.out.2.2.1 (by have:=HLN.out.2.1;omega) (by have:=HLN.out.2.2.2;omega) (by rw[eF];omega) (HG2.out.below hbr).g);rw[eF] at HO;have d0':=aj hbr hlt2 d0;have d1':=aj hbr hlt2 d1;clear hfull hr hX d0 d1 hi;go_wp2_with fail
      refine HO.out.mono ?_;rintro e w5 ⟨u,rfl,hu,hb5⟩;obtain⟨pu,cu,rfl,-⟩:=id hu.form;go_wp2;refine Kh (v:=.tuple #[.slice pu _ cu,.int .i64 0]) (by simp[results,Tryz.results16,go_sem];rfl) rfl ⟨_,by rw[HE.out],(fun _=>hu),(fun h=>absurd HE.out h),M2.out.trans ((hbr.trans (hb5.mono hbr.size)).mono M2.out.size)⟩
 ·have HC:=GF (show eH a b n=30 by unfold eH;rw[if_neg hck]);have hce:aG a b=30:=by unfold aG;rw[if_neg hck]
  rw[hce] at HCK;clear hce;go_wp2_with fail
  refine HCK.out.mono ?_;rintro e w2 ⟨rfl,hb2⟩;go_wp2;refine Kh (v:=.tuple #[.slice none 0 0,.int .i64 30]) (by simp[results,Tryz.results16,go_sem]) rfl ⟨_,by rw[HC.out],(fun h=>by rw[HC.out] at h;cases h),(fun _=>rfl),M1.out.trans (hb2.mono M1.out.size)⟩
def dB (x:List ByteArray):Bool:=x.all fun s=>ce s.data.toList
def ig (a b x:List ByteArray):Int:=if aI a b=true then (if 64<x.length then 3 else if dB x=true then 0 else 2) else 30
theorem nO {x:List ByteArray}{i:Nat} (h:i<x.length):dB (x.take (i+1))=(dB (x.take i)&&ce (aT x i).data.toList):=by
 unfold dB;rw[jS h,fQ]
theorem qg {x:List ByteArray}{i:Nat} (h:i<x.length) (hf:ce (aT x i).data.toList=false):dB x=false:=by
 unfold dB;exact nJ h _ (by rw[fQ];exact hf)
theorem RunN (v vx:Value) (a b x:List ByteArray) (w:World) (hF:IsF w v a b) (hX:IsS w vx x) (hG:Gx w) :
  Calls Tryz.prog 9 #[v,vx] w (jO (ig a b x) (cj a b x x.length) w):=by
 obtain⟨px,cx,rfl,-⟩:=id hX.form;have hYtmakbmhlemhgeaaGreatDoor:=fun w1 (h:Below w.heap.size w w1)=>hX.below h;obtain⟨p,c,q,d,rfl,hfa,hfb⟩:=id hF.ex;go_enter Tryz.func9,Tryz.ntmps9;go_upto_region 1 with fail
 have cc:=aU w (.slice p a.length c) (.slice q b.length d);have m1:=au w (.cells #[.slice p a.length c,.slice q b.length d] 34);have zz:=size_alloc w (.cells #[.slice p a.length c,.slice q b.length d] 34);generalize w.alloc (.cells #[.slice p a.length c,.slice q b.length d] 34)=w1 at *
 have HCK:=GF (fD _ a b w1 (hF.below m1) (hG.below m1));have HA:=GF (hfa.below m1);have HB:=GF (hfb.below m1);have HG:=GF (hG.below m1);have c0:=cc.1;have c1:=cc.2;have hlt:w.heap.size<w1.heap.size:=by omega
 have M1:=GF m1;clear hfa hfb cc zz m1 hF hG;have HX:=GF (hYtmakbmhlemhgeaaGreatDoor w1 M1.out);clear hYtmakbmhlemhgeaaGreatDoor hX;by_cases hck:aI a b=true
 ·have hce:aG a b=0:=by unfold aG;rw[if_pos hck]
  rw[hce] at HCK;obtain⟨ob1,ob7,oa1,oa7,oac,obc,ohd⟩:=bv hck;clear hce;go_wp2_with fail
  refine HCK.out.mono ?_;rintro e w2 ⟨rfl,hb2⟩;have d0:=aj hb2 hlt c0;have d1:=aj hb2 hlt c1;have HA2:=GF (HA.out.below hb2);have HB2:=GF (HB.out.below hb2);have HG2:=GF (HG.out.below hb2);have M2:=GF (M1.out.trans (hb2.mono M1.out.size));have hlt2:w.heap.size<w2.heap.size:=GN hlt hb2.size;clear c0 c1 HA HB HG HCK M1 hlt;have HX2:=GF (HX.out.below hb2);clear hb2 HX;have HC:=GF hck;have HF2:=GF (show IsF w2 (.agg #[.slice p a.length c,.slice q b.length d]) a b from⟨⟨p,c,q,d,rfl,HA2.out,HB2.out⟩⟩);have HLN:=GF (And.intro oa1 (And.intro oa7 (And.intro ob1 ob7)));clear hck oac obc ohd ob1 ob7 oa1 oa7;by_cases hn1:64<x.length
  ·have hd1:decide ((64:Int)<(x.length:Int))=true:=by simp;omega
   have he:ig a b x=3:=by unfold ig;rw[if_pos HC.out,if_pos hn1]
   have HE:=GF he;clear he hn1;go_wp2;refine Kh (v:=.tuple #[.slice none 0 0,.int .i64 3]) (by simp[results,Tryz.results9,go_sem]) rfl ⟨_,by rw[HE.out],(fun h=>by rw[HE.out] at h;cases h),(fun _=>rfl),M2.out⟩
  ·have hd1:decide ((64:Int)<(x.length:Int))=false:=by simp;omega
   have hx64:x.length<=64:=by omega
   have HR:=GF (show ig a b x=if dB x=true then 0 else 2 by unfold ig;rw[if_pos HC.out,if_neg hn1]);clear hn1;have hw0:Below w2.heap.size w2 w2:=Ki _ _;go_wp2;go_loopw [19] (fun s19 wr=>∃ i:Nat,s19=.int .i64 i/\i<=x.length/\Hid (dB (x.take i)=true)/\Below w2.heap.size w2 wr) (fun s19 _=>x.length-(intOf s19).toNat)
   case atStart=>exact⟨0,rfl,GY _,rfl,hw0⟩
   case round =>
    clear hw0;obtain⟨i,rfl,hin,hall,hbr⟩:=hrel;by_cases hi:i<x.length
    ·obtain⟨bx,ox,rfl,hbx,cx'⟩:=(HX2.out.below hbr).all (by omega);have hc:=cx' i hi;clear cx';go_wp2_with fail
     refine (qf _ wr (HG2.out.below hbr)).mono ?_;rintro e w3 ⟨bb,rfl,hbb,hb3⟩;have hB3:=hbr.trans (hb3.mono hbr.size)
     cases bb with
     | true =>
      have HT:=GF (show dB (x.take (i+1))=true by rw[nO hi,hall.out,hbb.out];rfl);clear hc hbb hb3 hbr hall;go_wp2;go_roundw;case rel=>exact⟨i+1,by go_num,by omega,HT.out,hB3⟩
      case measure=>simp[intOf]<;>omega
     | false =>
      have he:ig a b x=2:=by rw[HR.out,if_neg (by rw[qg hi hbb.out];decide)]
      have HE:=GF he;clear he hbb hall;go_wp2;refine Kh (v:=.tuple #[.slice none 0 0,.int .i64 2]) (by simp[results,Tryz.results9,go_sem]) rfl ⟨_,by rw[HE.out],(fun h=>by rw[HE.out] at h;cases h),(fun _=>rfl),M2.out.trans (hB3.mono M2.out.size)⟩
    ·have hi':i=x.length:=by omega
     subst hi';have hall':=hall.out;rw[He] at hall';have he:ig a b x=0:=by rw[HR.out,if_pos hall']
     have HE:=GF he;have HO:=GF (xT _ _ a b x wr (HF2.out.below hbr) (HX2.out.below hbr) HLN.out.1 HLN.out.2.2.1 (by have:=HLN.out.2.1;omega) (by have:=HLN.out.2.2.2;omega) (by omega) (HG2.out.below hbr).g);have d0':=aj hbr hlt2 d0;have d1':=aj hbr hlt2 d1;clear he hall hall' d0 d1 hi;go_wp2_with fail
     refine HO.out.mono ?_;rintro e w5 ⟨u,rfl,hu,hb5⟩;obtain⟨pu,cu,rfl,-⟩:=id hu.form;go_wp2;refine Kh (v:=.tuple #[.slice pu _ cu,.int .i64 0]) (by simp[results,Tryz.results9,go_sem];rfl) rfl ⟨_,by rw[HE.out],(fun _=>hu),(fun h=>absurd HE.out h),M2.out.trans ((hbr.trans (hb5.mono hbr.size)).mono M2.out.size)⟩
 ·have HC:=GF (show ig a b x=30 by unfold ig;rw[if_neg hck]);have hce:aG a b=30:=by unfold aG;rw[if_neg hck]
  rw[hce] at HCK;clear hce;go_wp2_with fail
  refine HCK.out.mono ?_;rintro e w2 ⟨rfl,hb2⟩;go_wp2;refine Kh (v:=.tuple #[.slice none 0 0,.int .i64 30]) (by simp[results,Tryz.results9,go_sem]) rfl ⟨_,by rw[HC.out],(fun h=>by rw[HC.out] at h;cases h),(fun _=>rfl),M1.out.trans (hb2.mono M1.out.size)⟩
structure FnT (F:FuncId) (cap:Array Value) (φ:ByteArray->ByteArray) (w:World):Prop where
 en:∀ (args:Array Value) (w:World),(callFunc F args).run Tryz.prog w=.ok (.enter F args) w
 on:∀ (x:ByteArray) (w':World),Below w.heap.size w w'->Calls Tryz.prog F (#[.string x]++cap) w' fun e w''=>e=.returned (.string (φ x))/\Below w'.heap.size w' w''
theorem FnT.below {F:FuncId}{cap:Array Value}{φ:ByteArray->ByteArray}{w w':World} (h:FnT F cap φ w) (hb:Below w.heap.size w w'):FnT F cap φ w' :=
 ⟨h.en,fun x w'' hb'=>h.on x w'' (hb.trans (hb'.mono hb.size))⟩
theorem xo (v:Value) (l:List ByteArray) (F:FuncId) (cap:Array Value) (φ:ByteArray->ByteArray) (w:World) (hl:IsS w v l) (hlen:l.length<1000000) (hF:FnT F cap φ w) :
  Calls Tryz.prog 120 #[v,.func (.func F) #[] cap] w fun e w'=>∃ u,e=.returned u/\cR w' w.heap.size u (l.map φ)/\Below w.heap.size w w':=by
 obtain⟨p,c,rfl,-⟩:=id hl.form;have HL:=GF hl;have HF:=GF hF;have EN:=hF.en;clear hl hF;go_enter Tryz.func120,Tryz.ntmps120;go_wp2;go_loopw [5,10] (fun s5 s10 wr=>∃ i:Nat,s10=.int .i64 i/\i<=l.length/\cR wr w.heap.size s5 ((l.map φ).take i)/\Below w.heap.size w wr) (fun _ s10 _=>l.length-(intOf s10).toNat)
 case atStart=>exact⟨0,rfl,GY _,cR.nil _ _,Ki _ _⟩
 case round =>
  obtain⟨i,rfl,hin,hown,hbr⟩:=hrel;by_cases hi:i<l.length
  ·obtain⟨b,o,rfl,hbl,hcs⟩:=(HL.out.below hbr).all (by omega);have hcell:=hcs i hi
   have HT:=GF (show (l.map φ).take (i+1)=(l.map φ).take i++[φ (aT l i)] by
    rw[show (l.map φ).take (i+1)=(l.map φ).take i++[(l.map φ)[i]'(by simpa using hi)] from (GZ _).symm,Ie,fQ])
   clear hcs;go_wp2_with fail
   refine (HF.out.on _ wr hbr).mono ?_;rintro e w1 ⟨rfl,hb1⟩;have hB1:=hbr.trans (hb1.mono hbr.size);have hw1:=hown.below hb1;have hbs:=hB1.size;have hzl:((l.map φ).take i).length<1000000000:=by simp;omega
   clear hb1 hbr hown hcell;go_wp2_with (at_builtin;refine bH 29 Tryz.underlying29 rfl (.tmp 14) (.tmp 18) rfl w.heap.size _ _ _ rfl hw1 rfl hzl hbs ?_)
   intro v' w2 hw2 hb2;have hB2:=hb2 _ _ hB1 (GM _);rw[<-HT.out] at hw2;clear hw1 hb2 hB1;go_wp2;go_roundw;case rel=>exact⟨i+1,by go_num,by omega,hw2,hB2⟩
   case measure=>simp[intOf]<;>omega
  ·have hin':i=l.length:=by omega
   subst hin';have hw:=hown;rw[show (l.map φ).take l.length=l.map φ from GU (by simp)] at hw;clear hown hi;go_wp2;go_ret;exact⟨_,rfl,hw,hbr⟩
def e_ (a b:List ByteArray):List ByteArray:=(List.range a.length).map fun i=>if i<b.length then jk (aT a i) (aT b i) else aT a i
def kM (a b:List ByteArray):List ByteArray:=if a.length<b.length then e_ b a else e_ a b
theorem fx (a b:List ByteArray):(e_ a b).length=a.length:=by simp[e_]
theorem ph (a b:List ByteArray):(kM a b).length=max a.length b.length:=by
 unfold kM
 split
 ·rw[fx];omega
 ·rw[fx];omega
theorem qQ (a b:List ByteArray) {i:Nat} (hi:i<a.length):(e_ a b).take (i+1)=(e_ a b).take i++[if i<b.length then jk (aT a i) (aT b i) else aT a i]:=by
 have hl:i<(e_ a b).length:=by rw[fx];exact hi
 rw[show (e_ a b).take (i+1)=(e_ a b).take i++[(e_ a b)[i]] from (GZ hl).symm];simp[e_]
theorem sumN (va vb:Value) (a b:List ByteArray) (w:World) (ha:IsS w va a) (hb:IsS w vb b) (hal:a.length<1000000) (hbl:b.length<1000000) (hG:Gw w) :
  Calls Tryz.prog 118 #[va,vb,.func (.func 68) #[] #[]] w fun e w'=>∃ u,e=.returned u/\cR w' w.heap.size u (kM a b)/\Below w.heap.size w w':=by
 obtain⟨pa,xa,rfl,-⟩:=id ha.form;obtain⟨pb,xb,rfl,-⟩:=id hb.form;have HG:=GF hG;go_enter Tryz.func118,Tryz.ntmps118;by_cases hlt:a.length<b.length
 ·have hd0:decide ((a.length:Int)<(b.length:Int))=true:=by simp;omega
  have hd1:decide (a.length<b.length)=true:=decide_eq_true hlt;have HS:=GF (show kM a b=e_ b a by unfold kM;rw[if_pos hlt]);clear hlt;go_wp2;go_loopw [7,19] (fun s7 s19 wr=>∃ i:Nat,s19=.int .i64 i/\i<=b.length/\cR wr w.heap.size s7 ((e_ b a).take i)/\Below w.heap.size w wr) (fun _ s19 _=>b.length-(intOf s19).toNat)
  case atStart=>exact⟨0,rfl,GY _,cR.nil _ _,Ki _ _⟩
  case round =>
   obtain⟨i,rfl,hin,hown,hbr⟩:=hrel;by_cases hi:i<b.length
   ·obtain⟨ba,oa,rfl,hba,hca⟩:=(hb.below hbr).all (by omega);have hc:=hca i hi;have HT:=GF (qQ b a hi);clear hca;by_cases hib:i<a.length
    ·have hdb:decide ((i:Int)<((a.length:Nat):Int))=true:=by simp;omega
     obtain⟨bb,ob,rfl,hbb,hcb⟩:=(ha.below hbr).all (by omega);have hd:=hcb i hib;have HT:=GF (show (e_ b a).take (i+1)=(e_ b a).take i++[jk (aT b i) (aT a i)] by rw[HT.out,if_pos hib]);clear hcb;go_wp2_with fail
     refine (lG _ _ wr (HG.out.below hbr)).mono ?_;rintro e w1 ⟨rfl,hb1⟩;have hB1:=hbr.trans (hb1.mono hbr.size);have hw1:=hown.below hb1;have hbs:=hB1.size;have hzl:((e_ b a).take i).length<1000000000:=by have h1:=hbl;simp[fx];omega
     clear hb1 hbr hown hc hd;go_wp2_with (at_builtin;refine bH 29 Tryz.underlying29 rfl (.tmp 35) (.tmp 37) rfl w.heap.size _ _ _ rfl hw1 rfl hzl hbs ?_)
     intro v' w2 hw2 hb2;have hB2:=hb2 _ _ hB1 (GM _);rw[<-HT.out] at hw2;clear hw1 hb2 hB1;go_wp2;go_roundw;case rel=>exact⟨i+1,by go_num,by omega,hw2,hB2⟩
     case measure=>simp[intOf]<;>omega
    ·have hdb:decide ((i:Int)<((a.length:Nat):Int))=false:=by simp;omega
     have HT:=GF (show (e_ b a).take (i+1)=(e_ b a).take i++[aT b i] by rw[HT.out,if_neg hib]);have hbs:=hbr.size;have hzl:((e_ b a).take i).length<1000000000:=by have h1:=hbl;simp[fx];omega
     go_wp2_with (at_builtin;refine bH 29 Tryz.underlying29 rfl (.tmp 35) (.tmp 37) rfl w.heap.size _ _ _ rfl hown rfl hzl hbs ?_)
     intro v' w2 hw2 hb2;have hB2:=hb2 _ _ hbr (GM _);rw[<-HT.out] at hw2;clear hb2 hbr hc hown;go_wp2;go_roundw;case rel=>exact⟨i+1,by go_num,by omega,hw2,hB2⟩
     case measure=>simp[intOf]<;>omega
   ·have hin':i=b.length:=by omega
    subst hin';have hw:=hown;rw[show (e_ b a).take b.length=e_ b a from GU (by rw[fx];exact GM _),<-HS.out] at hw;clear hown hi;go_wp2;go_ret;exact⟨_,rfl,hw,hbr⟩
 ·have hd0:decide ((a.length:Int)<(b.length:Int))=false:=by simp;omega
  have hd1:decide (a.length<b.length)=false:=decide_eq_false hlt;have HS:=GF (show kM a b=e_ a b by unfold kM;rw[if_neg hlt]);clear hlt;go_wp2;go_loopw [7,19] (fun s7 s19 wr=>∃ i:Nat,s19=.int .i64 i/\i<=a.length/\cR wr w.heap.size s7 ((e_ a b).take i)/\Below w.heap.size w wr) (fun _ s19 _=>a.length-(intOf s19).toNat)
  case atStart=>exact⟨0,rfl,GY _,cR.nil _ _,Ki _ _⟩
  case round =>
   obtain⟨i,rfl,hin,hown,hbr⟩:=hrel;by_cases hi:i<a.length
   ·obtain⟨ba,oa,rfl,hba,hca⟩:=(ha.below hbr).all (by omega);have hc:=hca i hi;have HT:=GF (qQ a b hi);clear hca;by_cases hib:i<b.length
    ·have hdb:decide ((i:Int)<((b.length:Nat):Int))=true:=by simp;omega
     obtain⟨bb,ob,rfl,hbb,hcb⟩:=(hb.below hbr).all (by omega);have hd:=hcb i hib;have HT:=GF (show (e_ a b).take (i+1)=(e_ a b).take i++[jk (aT a i) (aT b i)] by rw[HT.out,if_pos hib]);clear hcb;go_wp2_with fail
     refine (lG _ _ wr (HG.out.below hbr)).mono ?_;rintro e w1 ⟨rfl,hb1⟩;have hB1:=hbr.trans (hb1.mono hbr.size);have hw1:=hown.below hb1;have hbs:=hB1.size;have hzl:((e_ a b).take i).length<1000000000:=by have h1:=hal;simp[fx];omega
     clear hb1 hbr hown hc hd;go_wp2_with (at_builtin;refine bH 29 Tryz.underlying29 rfl (.tmp 35) (.tmp 37) rfl w.heap.size _ _ _ rfl hw1 rfl hzl hbs ?_)
     intro v' w2 hw2 hb2;have hB2:=hb2 _ _ hB1 (GM _);rw[<-HT.out] at hw2;clear hw1 hb2 hB1;go_wp2;go_roundw;case rel=>exact⟨i+1,by go_num,by omega,hw2,hB2⟩
     case measure=>simp[intOf]<;>omega
    ·have hdb:decide ((i:Int)<((b.length:Nat):Int))=false:=by simp;omega
     have HT:=GF (show (e_ a b).take (i+1)=(e_ a b).take i++[aT a i] by rw[HT.out,if_neg hib]);have hbs:=hbr.size;have hzl:((e_ a b).take i).length<1000000000:=by have h1:=hal;simp[fx];omega
     go_wp2_with (at_builtin;refine bH 29 Tryz.underlying29 rfl (.tmp 35) (.tmp 37) rfl w.heap.size _ _ _ rfl hown rfl hzl hbs ?_)
     intro v' w2 hw2 hb2;have hB2:=hb2 _ _ hbr (GM _);rw[<-HT.out] at hw2;clear hb2 hbr hc hown;go_wp2;go_roundw;case rel=>exact⟨i+1,by go_num,by omega,hw2,hB2⟩
     case measure=>simp[intOf]<;>omega
   ·have hin':i=a.length:=by omega
    subst hin';have hw:=hown;rw[show (e_ a b).take a.length=e_ a b from GU (by rw[fx];exact GM _),<-HS.out] at hw;clear hown hi;go_wp2;go_ret;exact⟨_,rfl,hw,hbr⟩
end Go.Proofs.YtmakbmhlemhgeaaGreatDoor
