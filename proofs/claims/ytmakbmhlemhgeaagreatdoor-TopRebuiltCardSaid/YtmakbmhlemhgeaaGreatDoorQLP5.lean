/- L -/
import Derived.Test.YtmakbmhlemhgeaaGreatDoorQNC7
import Derived.Test.YtmakbmhlemhgeaaGreatDoorQB
set_option linter.all false
set_option maxRecDepth 100000
set_option maxHeartbeats 8000000
namespace Go.Proofs.YtmakbmhlemhgeaaGreatDoor
open Go.RowKit Dg
def inT (a x:List ByteArray) (t:Nat):Nat->ByteArray
 | 0=>⟨#[48]⟩
 | k+1=>if k<=t then fJ (inT a x t k) (jM (aU a k) (aU x (t-k))) else inT a x t k
def gE (b y:List ByteArray) (t:Nat) (n:ByteArray):Nat->ByteArray
 | 0=>n
 | k+1=>if 0<k/\k<=t then mo (gE b y t n k) (jM (aU b k) (aU y (t-k))) else gE b y t n k
def fZ (a b x y:List ByteArray) (t:Nat):ByteArray:=gE b y t (inT a x t a.length) b.length
def aX (a b x:List ByteArray):Nat->List ByteArray
 | 0=>[]
 | t+1=>aX a b x t++[fZ a b x (aX a b x t) t]
theorem fw (a b x:List ByteArray):∀ t,(aX a b x t).length=t
 | 0=>rfl
 | t+1=>by unfold aX;rw[rE,fw a b x t];rfl
theorem IsS.all {w:World}{p:Option Addr}{n c:Nat}{l:List ByteArray} (h:IsS w (.slice p n c) l) (h0:0<l.length):∃ b o,p=some ⟨b,o,none⟩/\b<w.heap.size/\∀ k,k<l.length->w.cell? ⟨b,o+k,none⟩=some (.string (aU l k)):=by
 obtain⟨b,o,rfl,hlt,-⟩:=h.get h0;refine⟨b,o,rfl,hlt,fun k hk=>?_⟩;obtain⟨b',o',e,-,hc⟩:=h.get hk;obtain⟨rfl,rfl⟩:b=b'/\o=o':=by simpa using e
 rw[hc,dT]
theorem po (v vx:Value) (a b x:List ByteArray) (w:World) (hF:IsF w v a b) (hx:IsS w vx x) (ha0:0<a.length) (hb0:0<b.length) (ha:a.length<1000) (hb:b.length<1000) (hxl:x.length<1000) (hG:Gw w) :
  Calls Tryz.prog 26 #[v,vx] w fun e w'=>∃ u,e=.returned u/\IsS w' u (aX a b x x.length)/\Below w.heap.size w w':=by
 obtain⟨p,c,q,d,rfl,hfa,hfb⟩:=id hF.ex;obtain⟨px,cx,rfl,-⟩:=id hx.form;go_enter Tryz.func26,Tryz.ntmps26;go_upto_region 1 with fail
 have cc:=bc w (.slice p a.length c) (.slice q b.length d);have m1:=ae w (.cells #[.slice p a.length c,.slice q b.length d] 34);have zz:=af w (.cells #[.slice p a.length c,.slice q b.length d] 34);generalize w.alloc (.cells #[.slice p a.length c,.slice q b.length d] 34)=w1 at *
 obtain⟨ba,oa,rfl,hba,ca⟩:=(hfa.below m1).all ha0;obtain⟨bb,ob,rfl,hbb,cb⟩:=(hfb.below m1).all hb0;have HA:=ri ca;have HB:=ri cb;have HX:=ri (hx.below m1);have HG:=ri (hG.below m1);have C0:=ri cc.1;have C1:=ri cc.2;have hlt:w.heap.size<w1.heap.size:=by omega
 have M1:=ri m1;clear hfa hfb cc zz m1 hF hG hx ca cb;go_wp2;go_loopw [5,14] (fun s5 s14 wr=>∃ t:Nat,s14=.int .i64 t/\t<=x.length/\cm wr w1.heap.size s5 (aX a b x t)/\Below w1.heap.size w1 wr) (fun _ s14 _=>x.length-(intOf s14).toNat)
 case atStart=>exact⟨0,rfl,rH _,cm.nil _ _,t_ _ _⟩
 case round =>
  rename World=>wo;obtain⟨t,rfl,htn,hown,hbr⟩:=hrel;by_cases ht:t<x.length
  ·obtain⟨py,cy,rfl,-⟩:=id hown.isS.form;obtain⟨bx,ox,rfl,hbx,cx'⟩:=HX.out.all (by omega);have CX:=ri cx';have d0:=ac hbr hlt C0.out;obtain⟨y,hy⟩:∃ y,y=aX a b x t:=⟨_,rfl⟩;have hyl:y.length=t:=by rw[hy,fw]
   have HY:=ri hy;rw[<-hy] at hown |-;rw[hyl];have HYL:=ri hyl;have HOWN:=ri hown;have HBR:=ri hbr;clear hy hyl hown cx' hbr;go_wp2;go_loopw [7,20] (fun s7 s20 wr2=>∃ k:Nat,s7=.string (inT a x t k)/\s20=.int .i64 k/\k<=a.length/\Below wo.heap.size wo wr2) (fun _ s20 _=>a.length-(intOf s20).toNat)
   case atStart=>exact⟨0,rfl,rfl,rH _,t_ _ _⟩
   case round =>
    clear d0;obtain⟨k,rfl,rfl,hkn,hbk⟩:=hrel;have hB1:=HBR.out.trans (hbk.mono HBR.out.size);by_cases hk:k<a.length
    ·have hc:=ac hB1 hba (HA.out k hk);by_cases hkt:k<=t
     ·have hdt:decide ((k:Int)<=(t:Int))=true:=by simp;omega
      have e1:(t:Int)-(k:Int)=((t-k:Nat):Int):=by omega
      have hx:=ac hB1 hbx (CX.out (t-k) (by omega));have HT:=ri (show inT a x t (k+1)=fJ (inT a x t k) (jM (aU a k) (aU x (t-k))) by show (if k<=t then _ else _)=_;rw[if_pos hkt]);have hlx:t-k<x.length:=by omega
      go_wp2_with fail
      refine (lp _ _ wr (HG.out.below hB1)).mono ?_;rintro e w3 ⟨rfl,hb3⟩;go_wp2_with fail
      refine (iW _ _ w3 ((HG.out.below hB1).below hb3)).mono ?_;rintro e w4 ⟨rfl,hb4⟩;have hB4:=hbk.trans ((hb3.trans (hb4.mono hb3.size)).mono hbk.size);clear hc hx hb3 hb4 hbk hB1;go_wp2;go_roundw;case rel=>exact⟨k+1,by rw[HT.out],by go_num,by omega,hB4⟩
      case measure=>simp[intOf]<;>omega
     ·have hdt:decide ((k:Int)<=(t:Int))=false:=by simp;omega
      have HT:=ri (show inT a x t (k+1)=inT a x t k by show (if k<=t then _ else _)=_;rw[if_neg hkt]);go_wp2;go_roundw;case rel=>exact⟨k+1,by rw[HT.out],by go_num,by omega,hbk⟩
      case measure=>simp[intOf]<;>omega
    ·have hk':k=a.length:=by omega
     subst hk';rename World=>w5;obtain⟨n0,hn0⟩:∃ n,n=inT a x t a.length:=⟨_,rfl⟩;rw[<-hn0];have HN0:=ri hn0;have d1:=ac hB1 hlt C1.out;clear hn0 hk;go_wp2;go_loopw [7,42] (fun s7 s42 wr2=>∃ k:Nat,s7=.string (gE b y t n0 k)/\s42=.int .i64 k/\k<=b.length/\Below wo.heap.size wo wr2) (fun _ s42 _=>b.length-(intOf s42).toNat)
     case atStart=>exact⟨0,rfl,rfl,rH _,hbk⟩
     case round =>
      clear d1 hbk hB1;obtain⟨k,rfl,rfl,hkn,hbk⟩:=hrel;have hB1:=HBR.out.trans (hbk.mono HBR.out.size);by_cases hk:k<b.length
      ·have hc:=ac hB1 hbb (HB.out k hk);by_cases hkt:0<k/\k<=t
       ·have hd0:decide ((0:Int)<(k:Int))=true:=by simp;omega
        have hdt:decide ((k:Int)<=(t:Int))=true:=by simp;omega
        have e1:(t:Int)-(k:Int)=((t-k:Nat):Int):=by omega
        have HT:=ri (show gE b y t n0 (k+1)=mo (gE b y t n0 k) (jM (aU b k) (aU y (t-k))) by show (if 0<k/\k<=t then _ else _)=_;rw[if_pos hkt]);obtain⟨by',oy,rfl,hby,cy'⟩:=(HOWN.out.below hbk).isS.all (by rw[HYL.out];omega);have hy:=cy' (t-k) (by rw[HYL.out];omega);have hlx:t-k<t:=by omega
        clear cy';go_wp2_with fail
        refine (lp _ _ wr (HG.out.below hB1)).mono ?_;rintro e w3 ⟨rfl,hb3⟩;go_wp2_with fail
        refine (pf _ _ w3 ((HG.out.below hB1).below hb3)).mono ?_;rintro e w4 ⟨rfl,hb4⟩;have hB4:=hbk.trans ((hb3.trans (hb4.mono hb3.size)).mono hbk.size);clear hc hy hb3 hb4 hbk hB1;go_wp2;go_roundw;case rel=>exact⟨k+1,by rw[HT.out],by go_num,by omega,hB4⟩
        case measure=>simp[intOf]<;>omega
       ·have HT:=ri (show gE b y t n0 (k+1)=gE b y t n0 k by show (if 0<k/\k<=t then _ else _)=_;rw[if_neg hkt]);by_cases hk0:0<k
        ·have hd0:decide ((0:Int)<(k:Int))=true:=by simp;omega
         have hdt:decide ((k:Int)<=(t:Int))=false:=by simp;omega
         go_wp2;go_roundw;case rel=>exact⟨k+1,by rw[HT.out],by go_num,by omega,hbk⟩
         case measure=>simp[intOf]<;>omega
        ·have hd0:decide ((0:Int)<(k:Int))=false:=by simp;omega
         go_wp2;go_roundw;case rel=>exact⟨k+1,by rw[HT.out],by go_num,by omega,hbk⟩
         case measure=>simp[intOf]<;>omega
      ·have hk':k=b.length:=by omega
       subst hk';have hs:gE b y t n0 b.length=fZ a b x y t:=by rw[HN0.out];rfl
       rw[hs];have hw:cm wr w1.heap.size (.slice py t cy) y:=by have:=HOWN.out.below hbk;rwa [HYL.out] at this
       have hbs:=hB1.size;have hyl:y.length<1000000000:=by rw[HYL.out];omega
       have HS:=ri (show aX a b x (t+1)=y++[fZ a b x y t] by show aX a b x t++_=_;rw[<-HY.out]);clear hs hk;generalize Value.slice py t cy=v5 at hw |-;go_wp2_with (at_builtin;refine aI 29 Tryz.underlying29 rfl (.tmp 65) (.tmp 67) rfl w1.heap.size _ _ _ rfl hw rfl hyl hbs ?_)
       intro v' w6 hw6 hb6;have hB6:=hb6 _ _ hB1 (rp _);rw[<-HS.out] at hw6;clear hw hb6 hB1 hbk hyl;go_wp2;go_roundw;case rel=>exact⟨t+1,by go_num,by omega,hw6,hB6⟩
       case measure=>simp[intOf]<;>omega
  ·have ht':t=x.length:=by omega
   subst ht';have hs:=hown.isS;obtain⟨q1,d1,rfl,-⟩:=id hs.form;clear ht hown;go_wp2;go_ret;exact⟨_,rfl,hs,M1.out.trans (hbr.mono M1.out.size)⟩
def mD (e0:Int) (l:List ByteArray) (w:World) (e:Ending) (w':World):Prop :=
 ∃ v,e=.returned (.tuple #[v,.int .i64 e0])/\(e0=0->IsS w' v l)/\(e0≠0->v=.slice none 0 0)/\Below w.heap.size w w'
def cK (x:List ByteArray):Bool:=x.all fun s=>bn s.data.toList
def fh (a b x:List ByteArray):Int:=if ax a b=true then (if 64<x.length then 3 else if cK x=true then 0 else 2) else 30
theorem kx {x:List ByteArray}{i:Nat} (h:i<x.length):cK (x.take (i+1))=(cK (x.take i)&&bn (aU x i).data.toList):=by
 unfold cK;rw[eu h,dT]
theorem lU {x:List ByteArray}{i:Nat} (h:i<x.length) (hf:bn (aU x i).data.toList=false):cK x=false:=by
 unfold cK;exact iP h _ (by rw[dT];exact hf)
theorem RunN (v vx:Value) (a b x:List ByteArray) (w:World) (hF:IsF w v a b) (hX:IsS w vx x) (hG:Gx w) :
  Calls Tryz.prog 9 #[v,vx] w (mD (fh a b x) (aX a b x x.length) w):=by
 obtain⟨px,cx,rfl,-⟩:=id hX.form;have hYtmakbmhlemhgeaaGreatDoor:=fun w1 (h:Below w.heap.size w w1)=>hX.below h;obtain⟨p,c,q,d,rfl,hfa,hfb⟩:=id hF.ex;go_enter Tryz.func9,Tryz.ntmps9;go_upto_region 1 with fail
 have cc:=bc w (.slice p a.length c) (.slice q b.length d);have m1:=ae w (.cells #[.slice p a.length c,.slice q b.length d] 34);have zz:=af w (.cells #[.slice p a.length c,.slice q b.length d] 34);generalize w.alloc (.cells #[.slice p a.length c,.slice q b.length d] 34)=w1 at *
 have HCK:=ri (iS _ a b w1 (hF.below m1) (hG.below m1));have HA:=ri (hfa.below m1);have HB:=ri (hfb.below m1);have HG:=ri (hG.below m1);have c0:=cc.1;have c1:=cc.2;have hlt:w.heap.size<w1.heap.size:=by omega
 have M1:=ri m1;clear hfa hfb cc zz m1 hF hG;have HX:=ri (hYtmakbmhlemhgeaaGreatDoor w1 M1.out);clear hYtmakbmhlemhgeaaGreatDoor hX;by_cases hck:ax a b=true
 ·have hce:a8 a b=0:=by unfold a8;rw[if_pos hck]
  rw[hce] at HCK;obtain⟨ob1,ob7,oa1,oa7,oac,obc,ohd⟩:=eb hck;clear hce;go_wp2_with fail
  refine HCK.out.mono ?_;rintro e w2 ⟨rfl,hb2⟩;have d0:=ac hb2 hlt c0;have d1:=ac hb2 hlt c1;have HA2:=ri (HA.out.below hb2);have HB2:=ri (HB.out.below hb2);have HG2:=ri (HG.out.below hb2);have M2:=ri (M1.out.trans (hb2.mono M1.out.size));have hlt2:w.heap.size<w2.heap.size:=rA hlt hb2.size;clear c0 c1 HA HB HG HCK M1 hlt;have HX2:=ri (HX.out.below hb2);clear hb2 HX;have HC:=ri hck;have HF2:=ri (show IsF w2 (.agg #[.slice p a.length c,.slice q b.length d]) a b from⟨⟨p,c,q,d,rfl,HA2.out,HB2.out⟩⟩);have HLN:=ri (And.intro oa1 (And.intro oa7 (And.intro ob1 ob7)));clear hck oac obc ohd ob1 ob7 oa1 oa7;by_cases hn1:64<x.length
  ·have hd1:decide ((64:Int)<(x.length:Int))=true:=by simp;omega
   have he:fh a b x=3:=by unfold fh;rw[if_pos HC.out,if_pos hn1]
   have HE:=ri he;clear he hn1;go_wp2;refine t8 (v:=.tuple #[.slice none 0 0,.int .i64 3]) (by simp[results,Tryz.results9,go_sem]) rfl ⟨_,by rw[HE.out],(fun h=>by rw[HE.out] at h;cases h),(fun _=>rfl),M2.out⟩
  ·have hd1:decide ((64:Int)<(x.length:Int))=false:=by simp;omega
   have hx64:x.length<=64:=by omega
   have HR:=ri (show fh a b x=if cK x=true then 0 else 2 by unfold fh;rw[if_pos HC.out,if_neg hn1]);clear hn1;have hw0:Below w2.heap.size w2 w2:=t_ _ _;go_wp2;go_loopw [19] (fun s19 wr=>∃ i:Nat,s19=.int .i64 i/\i<=x.length/\Hid (cK (x.take i)=true)/\Below w2.heap.size w2 wr) (fun s19 _=>x.length-(intOf s19).toNat)
   case atStart=>exact⟨0,rfl,rH _,rfl,hw0⟩
   case round =>
    clear hw0;obtain⟨i,rfl,hin,hall,hbr⟩:=hrel;by_cases hi:i<x.length
    ·obtain⟨bx,ox,rfl,hbx,cx'⟩:=(HX2.out.below hbr).all (by omega);have hc:=cx' i hi;clear cx';go_wp2_with fail
     refine (mS _ wr (HG2.out.below hbr)).mono ?_;rintro e w3 ⟨bb,rfl,hbb,hb3⟩;have hB3:=hbr.trans (hb3.mono hbr.size)
     cases bb with
     | true =>
      have HT:=ri (show cK (x.take (i+1))=true by rw[kx hi,hall.out,hbb.out];rfl);clear hc hbb hb3 hbr hall;go_wp2;go_roundw;case rel=>exact⟨i+1,by go_num,by omega,HT.out,hB3⟩
      case measure=>simp[intOf]<;>omega
     | false =>
      have he:fh a b x=2:=by rw[HR.out,if_neg (by rw[lU hi hbb.out];decide)]
      have HE:=ri he;clear he hbb hall;go_wp2;refine t8 (v:=.tuple #[.slice none 0 0,.int .i64 2]) (by simp[results,Tryz.results9,go_sem]) rfl ⟨_,by rw[HE.out],(fun h=>by rw[HE.out] at h;cases h),(fun _=>rfl),M2.out.trans (hB3.mono M2.out.size)⟩
    ·have hi':i=x.length:=by omega
     subst hi';have hall':=hall.out;rw[r_] at hall';have he:fh a b x=0:=by rw[HR.out,if_pos hall']
     have HE:=ri he;have HO:=ri (po _ _ a b x wr (HF2.out.below hbr) (HX2.out.below hbr) HLN.out.1 HLN.out.2.2.1 (by have:=HLN.out.2.1;omega) (by have:=HLN.out.2.2.2;omega) (by omega) (HG2.out.below hbr).g);have d0':=ac hbr hlt2 d0;have d1':=ac hbr hlt2 d1;clear he hall hall' d0 d1 hi;go_wp2_with fail
     refine HO.out.mono ?_;rintro e w5 ⟨u,rfl,hu,hb5⟩;obtain⟨pu,cu,rfl,-⟩:=id hu.form;go_wp2;refine t8 (v:=.tuple #[.slice pu _ cu,.int .i64 0]) (by simp[results,Tryz.results9,go_sem];rfl) rfl ⟨_,by rw[HE.out],(fun _=>hu),(fun h=>absurd HE.out h),M2.out.trans ((hbr.trans (hb5.mono hbr.size)).mono M2.out.size)⟩
 ·have HC:=ri (show fh a b x=30 by unfold fh;rw[if_neg hck]);have hce:a8 a b=30:=by unfold a8;rw[if_neg hck]
  rw[hce] at HCK;clear hce;go_wp2_with fail
  refine HCK.out.mono ?_;rintro e w2 ⟨rfl,hb2⟩;go_wp2;refine t8 (v:=.tuple #[.slice none 0 0,.int .i64 30]) (by simp[results,Tryz.results9,go_sem]) rfl ⟨_,by rw[HC.out],(fun h=>by rw[HC.out] at h;cases h),(fun _=>rfl),M1.out.trans (hb2.mono M1.out.size)⟩
end Go.Proofs.YtmakbmhlemhgeaaGreatDoor
