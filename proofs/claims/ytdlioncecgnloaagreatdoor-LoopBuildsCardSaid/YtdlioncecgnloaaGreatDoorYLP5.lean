/- Lemmas of this claim. -/
import Derived.Test.YtdlioncecgnloaaGreatDoorYLP2
set_option linter.all false
set_option maxRecDepth 100000
set_option maxHeartbeats 8000000
namespace Go.Proofs.YtdlioncecgnloaaGreatDoor
open Go.RowKit Dg
def inT (a x:List ByteArray) (t:Nat):Nat→ByteArray
 | 0=>⟨#[48]⟩
 | k+1=>if k≤t then fd (inT a x t k) (ck (ap a k) (ap x (t-k))) else inT a x t k
def mW (b y:List ByteArray) (t:Nat) (n:ByteArray):Nat→ByteArray
 | 0=>n
 | k+1=>if 0<k∧k≤t then eX (mW b y t n k) (ck (ap b k) (ap y (t-k))) else mW b y t n k
def m9 (a b x y:List ByteArray) (t:Nat):ByteArray:=mW b y t (inT a x t a.length) b.length
def dw (a b x:List ByteArray):Nat→List ByteArray
 | 0=>[]
 | t+1=>dw a b x t++[m9 a b x (dw a b x t) t]
theorem jz (a b x:List ByteArray):∀ t,(dw a b x t).length=t
 | 0=>rfl
 | t+1=>by unfold dw;rw[zw,jz a b x t];rfl
theorem IsS.all {w:World}{p:Option Addr}{n c:Nat}{l:List ByteArray} (h:IsS w (.slice p n c) l) (h0:0<l.length):∃ b o,p=some ⟨b,o,none⟩∧b<w.heap.size∧∀ k,k<l.length→w.cell? ⟨b,o+k,none⟩=some (.string (ap l k)):=by
 obtain⟨b,o,rfl,hlt,-⟩:=h.get h0
 refine⟨b,o,rfl,hlt,fun k hk=>?_⟩
 obtain⟨b',o',e,-,hc⟩:=h.get hk
 obtain⟨rfl,rfl⟩:b=b'∧o=o':=by simpa using e
 rw[hc,ee]
theorem xe (v vx:Value) (a b x:List ByteArray) (w:World) (hF:IsF w v a b) (hx:IsS w vx x) (ha0:0<a.length) (hb0:0<b.length) (ha:a.length<1000) (hb:b.length<1000) (hxl:x.length<1000) (hG:Gw w) :
  Calls Tryz.prog 100 #[v,vx] w fun e w'=>∃ u,e=.returned u∧IsS w' u (dw a b x x.length)∧Below w.heap.size w w':=by
 obtain⟨p,c,q,d,rfl,hfa,hfb⟩:=id hF.ex
 obtain⟨px,cx,rfl,-⟩:=id hx.form
 go_enter Tryz.func100,Tryz.ntmps100
 go_upto_region 1 with fail
 have cc:=ar w (.slice p a.length c) (.slice q b.length d)
 have m1:=ae w (.cells #[.slice p a.length c,.slice q b.length d] 28)
 have zz:=size_alloc w (.cells #[.slice p a.length c,.slice q b.length d] 28)
 generalize w.alloc (.cells #[.slice p a.length c,.slice q b.length d] 28)=w1 at *
 obtain⟨ba,oa,rfl,hba,ca⟩:=(hfa.below m1).all ha0
 obtain⟨bb,ob,rfl,hbb,cb⟩:=(hfb.below m1).all hb0
 have HA:=zf ca
 have HB:=zf cb
 have HX:=zf (hx.below m1)
 have HG:=zf (hG.below m1)
 have C0:=zf cc.1
 have C1:=zf cc.2
 have hlt:w.heap.size<w1.heap.size:=by omega
 have M1:=zf m1
 clear hfa hfb cc zz m1 hF hG hx ca cb
 go_wp2
 go_loopw [5,14] (fun s5 s14 wr=>∃ t:Nat,s14=.int .i64 t∧t≤x.length∧bf wr w1.heap.size s5 (dw a b x t)∧Below w1.heap.size w1 wr) (fun _ s14 _=>x.length-(intOf s14).toNat)
 case atStart=>exact⟨0,rfl,zD _,bf.nil _ _,Below.refl _ _⟩
 case round =>
  rename World=>wo
  obtain⟨t,rfl,htn,hown,hbr⟩:=hrel
  by_cases ht:t<x.length
  ·obtain⟨py,cy,rfl,-⟩:=id hown.isS.form
   obtain⟨bx,ox,rfl,hbx,cx'⟩:=HX.out.all (by omega)
   have CX:=zf cx'
   have d0:=aa hbr hlt C0.out
   obtain⟨y,hy⟩:∃ y,y=dw a b x t:=⟨_,rfl⟩
   have hyl:y.length=t:=by rw[hy,jz]
   have HY:=zf hy
   rw[←hy] at hown ⊢
   rw[hyl]
   have HYL:=zf hyl
   have HOWN:=zf hown
   have HBR:=zf hbr
   clear hy hyl hown cx' hbr
   go_wp2
   go_loopw [7,20] (fun s7 s20 wr2=>∃ k:Nat,s7=.string (inT a x t k)∧s20=.int .i64 k∧k≤a.length∧Below wo.heap.size wo wr2) (fun _ s20 _=>a.length-(intOf s20).toNat)
   case atStart=>exact⟨0,rfl,rfl,zD _,Below.refl _ _⟩
   case round =>
    clear d0
    obtain⟨k,rfl,rfl,hkn,hbk⟩:=hrel
    have hB1:=HBR.out.trans (hbk.mono HBR.out.size)
    by_cases hk:k<a.length
    ·have hc:=aa hB1 hba (HA.out k hk)
     by_cases hkt:k≤t
     ·have hdt:decide ((k:Int)≤(t:Int))=true:=by simp;omega
      have e1:(t:Int)-(k:Int)=((t-k:Nat):Int):=by omega
      have hx:=aa hB1 hbx (CX.out (t-k) (by omega))
      have HT:=zf (show inT a x t (k+1)=fd (inT a x t k) (ck (ap a k) (ap x (t-k))) by show (if k≤t then _ else _)=_;rw[if_pos hkt])
      have hlx:t-k<x.length:=by omega
      go_wp2_with fail
      refine (dN _ _ wr (HG.out.below hB1)).mono ?_
      rintro e w3 ⟨rfl,hb3⟩
      go_wp2_with fail
      refine (iH _ _ w3 ((HG.out.below hB1).below hb3)).mono ?_
      rintro e w4 ⟨rfl,hb4⟩
      have hB4:=hbk.trans ((hb3.trans (hb4.mono hb3.size)).mono hbk.size)
      clear hc hx hb3 hb4 hbk hB1
      go_wp2
      go_roundw
      case rel=>exact⟨k+1,by rw[HT.out],by go_num,by omega,hB4⟩
      case measure=>(first | (simp[intOf];done) | (simp[intOf];omega))
     ·have hdt:decide ((k:Int)≤(t:Int))=false:=by simp;omega
      have HT:=zf (show inT a x t (k+1)=inT a x t k by show (if k≤t then _ else _)=_;rw[if_neg hkt])
      go_wp2
      go_roundw
      case rel=>exact⟨k+1,by rw[HT.out],by go_num,by omega,hbk⟩
      case measure=>(first | (simp[intOf];done) | (simp[intOf];omega))
    ·have hk':k=a.length:=by omega
     subst hk'
     rename World=>w5
     obtain⟨n0,hn0⟩:∃ n,n=inT a x t a.length:=⟨_,rfl⟩
     rw[←hn0]
     have HN0:=zf hn0
     have d1:=aa hB1 hlt C1.out
     clear hn0 hk
     go_wp2
     go_loopw [7,42] (fun s7 s42 wr2=>∃ k:Nat,s7=.string (mW b y t n0 k)∧s42=.int .i64 k∧k≤b.length∧Below wo.heap.size wo wr2) (fun _ s42 _=>b.length-(intOf s42).toNat)
     case atStart=>exact⟨0,rfl,rfl,zD _,hbk⟩
     case round =>
      clear d1 hbk hB1
      obtain⟨k,rfl,rfl,hkn,hbk⟩:=hrel
      have hB1:=HBR.out.trans (hbk.mono HBR.out.size)
      by_cases hk:k<b.length
      ·have hc:=aa hB1 hbb (HB.out k hk)
       by_cases hkt:0<k∧k≤t
       ·have hd0:decide ((0:Int)<(k:Int))=true:=by simp;omega
        have hdt:decide ((k:Int)≤(t:Int))=true:=by simp;omega
        have e1:(t:Int)-(k:Int)=((t-k:Nat):Int):=by omega
        have HT:=zf (show mW b y t n0 (k+1)=eX (mW b y t n0 k) (ck (ap b k) (ap y (t-k))) by show (if 0<k∧k≤t then _ else _)=_;rw[if_pos hkt])
        obtain⟨by',oy,rfl,hby,cy'⟩:=(HOWN.out.below hbk).isS.all (by rw[HYL.out];omega)
        have hy:=cy' (t-k) (by rw[HYL.out];omega)
        have hlx:t-k<t:=by omega
        clear cy'
        go_wp2_with fail
        refine (dN _ _ wr (HG.out.below hB1)).mono ?_
        rintro e w3 ⟨rfl,hb3⟩
        go_wp2_with fail
        refine (iJ _ _ w3 ((HG.out.below hB1).below hb3)).mono ?_
        rintro e w4 ⟨rfl,hb4⟩
        have hB4:=hbk.trans ((hb3.trans (hb4.mono hb3.size)).mono hbk.size)
        clear hc hy hb3 hb4 hbk hB1
        go_wp2
        go_roundw
        case rel=>exact⟨k+1,by rw[HT.out],by go_num,by omega,hB4⟩
        case measure=>(first | (simp[intOf];done) | (simp[intOf];omega))
       ·have HT:=zf (show mW b y t n0 (k+1)=mW b y t n0 k by show (if 0<k∧k≤t then _ else _)=_;rw[if_neg hkt])
        by_cases hk0:0<k
        ·have hd0:decide ((0:Int)<(k:Int))=true:=by simp;omega
         have hdt:decide ((k:Int)≤(t:Int))=false:=by simp;omega
         go_wp2
         go_roundw
         case rel=>exact⟨k+1,by rw[HT.out],by go_num,by omega,hbk⟩
         case measure=>(first | (simp[intOf];done) | (simp[intOf];omega))
        ·have hd0:decide ((0:Int)<(k:Int))=false:=by simp;omega
         go_wp2
         go_roundw
         case rel=>exact⟨k+1,by rw[HT.out],by go_num,by omega,hbk⟩
         case measure=>(first | (simp[intOf];done) | (simp[intOf];omega))
      ·have hk':k=b.length:=by omega
       subst hk'
       have hs:mW b y t n0 b.length=m9 a b x y t:=by rw[HN0.out];rfl
       rw[hs]
       have hw:bf wr w1.heap.size (.slice py t cy) y:=by have:=HOWN.out.below hbk;rwa [HYL.out] at this
       have hbs:=hB1.size
       have hyl:y.length<1000000000:=by rw[HYL.out];omega
       have HS:=zf (show dw a b x (t+1)=y++[m9 a b x y t] by show dw a b x t++_=_;rw[←HY.out])
       clear hs hk
       generalize Value.slice py t cy=v5 at hw ⊢
       go_wp2_with (at_builtin;refine aH 26 Tryz.underlying26 rfl (.tmp 65) (.tmp 67) rfl w1.heap.size _ _ _ rfl hw rfl hyl hbs ?_)
       intro v' w6 hw6 hb6
       have hB6:=hb6 _ _ hB1 (zn _)
       rw[←HS.out] at hw6
       clear hw hb6 hB1 hbk hyl
       go_wp2
       go_roundw
       case rel=>exact⟨t+1,by go_num,by omega,hw6,hB6⟩
       case measure=>(first | (simp[intOf];done) | (simp[intOf];omega))
  ·have ht':t=x.length:=by omega
   subst ht'
   have hs:=hown.isS
   obtain⟨q1,d1,rfl,-⟩:=id hs.form
   clear ht hown
   go_wp2
   go_ret
   exact⟨_,rfl,hs,M1.out.trans (hbr.mono M1.out.size)⟩
def eO (n:Nat):List ByteArray:=(List.range n).map fun i=>if i=0 then ⟨#[49]⟩ else ⟨#[48]⟩
theorem dr (n:Nat):(eO n).length=n:=by simp[eO]
theorem n_ {n i:Nat} (h:i<(eO n).length):(eO n)[i]=if i=0 then ⟨#[49]⟩ else ⟨#[48]⟩:=by simp[eO]
theorem ui {n i:Nat} (h:i<n) (h0:i≠0):(aT (eO n) i).set i ⟨#[48]⟩=aT (eO n) (i+1):=by
 have hl:i<(eO n).length:=by rw[dr];exact h
 have:=fi (eO n) hl
 rw[n_ hl,if_neg h0] at this
 exact this
theorem sB {n:Nat} (h:0<n):((aT (eO n) 0).set 0 ⟨#[48]⟩).set 0 ⟨#[49]⟩=aT (eO n) 1:=by
 have hl:0<(eO n).length:=by rw[dr];exact h
 have:=fi (eO n) hl
 rw[n_ hl,if_pos rfl] at this
 rw[List.set_set];exact this
def tG (e0:Int) (l:List ByteArray) (w:World) (e:Ending) (w':World):Prop :=
 ∃ v,e=.returned (.tuple #[v,.int .i64 e0])∧(e0=0→IsS w' v l)∧(e0≠0→v=.slice none 0 0)∧Below w.heap.size w w'
def hO (a b:List ByteArray) (n:Int):Int:=if au a b=true then (if 0≤n∧n≤64 then 0 else 8) else 30
theorem r8 (v:Value) (a b:List ByteArray) (n:Int) (w:World) (hF:IsF w v a b) (hG:Gx w) :
  Calls Tryz.prog 34 #[v,.int .i64 n] w (tG (hO a b n) (dw a b (eO n.toNat) n.toNat) w):=by
 obtain⟨p,c,q,d,rfl,hfa,hfb⟩:=id hF.ex
 go_enter Tryz.func34,Tryz.ntmps34
 go_upto_region 1 with fail
 have cc:=ar w (.slice p a.length c) (.slice q b.length d)
 have m1:=ae w (.cells #[.slice p a.length c,.slice q b.length d] 28)
 have zz:=size_alloc w (.cells #[.slice p a.length c,.slice q b.length d] 28)
 generalize w.alloc (.cells #[.slice p a.length c,.slice q b.length d] 28)=w1 at *
 have HCK:=zf (dD _ a b w1 (hF.below m1) (hG.below m1))
 have HA:=zf (hfa.below m1)
 have HB:=zf (hfb.below m1)
 have HG:=zf (hG.below m1)
 have c0:=cc.1
 have c1:=cc.2
 have hlt:w.heap.size<w1.heap.size:=by omega
 have M1:=zf m1
 clear hfa hfb cc zz m1 hF hG
 by_cases hck:au a b=true
 ·have hce:av a b=0:=by unfold av;rw[if_pos hck]
  rw[hce] at HCK
  obtain⟨ob1,ob7,oa1,oa7,oac,obc,ohd⟩:=aG hck
  clear hce
  go_wp2_with fail
  refine HCK.out.mono ?_
  rintro e w2 ⟨rfl,hb2⟩
  have d0:=aa hb2 hlt c0
  have d1:=aa hb2 hlt c1
  have HA2:=zf (HA.out.below hb2)
  have HB2:=zf (HB.out.below hb2)
  have HG2:=zf (HG.out.below hb2)
  have M2:=zf (M1.out.trans (hb2.mono M1.out.size))
  have hlt2:w.heap.size<w2.heap.size:=zq hlt hb2.size
  clear c0 c1 HA HB HG HCK M1 hb2 hlt
  have HC:=zf hck
  have HF2:=zf (show IsF w2 (.agg #[.slice p a.length c,.slice q b.length d]) a b from⟨⟨p,c,q,d,rfl,HA2.out,HB2.out⟩⟩)
  have HLN:=zf (And.intro oa1 (And.intro oa7 (And.intro ob1 ob7)))
  clear hck oac obc ohd ob1 ob7 oa1 oa7
  by_cases hn0:n<0
  ·have hd:decide (n<0)=true:=decide_eq_true hn0
   have he:hO a b n=8:=by unfold hO;rw[if_pos HC.out,if_neg (by omega)]
   have HE:=zf he
   clear he
   go_wp2
   refine bodyPost_ret (v:=.tuple #[.slice none 0 0,.int .i64 8]) (by simp[results,Tryz.results34,go_sem]) rfl ⟨_,by rw[HE.out],(fun h=>by rw[HE.out] at h;cases h),(fun _=>rfl),M2.out⟩
  ·have hd:decide (n<0)=false:=decide_eq_false hn0
   by_cases hn1:64<n
   ·have hd1:decide (64<n)=true:=decide_eq_true hn1
    have he:hO a b n=8:=by unfold hO;rw[if_pos HC.out,if_neg (by omega)]
    have HE:=zf he
    clear he
    go_wp2
    refine bodyPost_ret (v:=.tuple #[.slice none 0 0,.int .i64 8]) (by simp[results,Tryz.results34,go_sem]) rfl ⟨_,by rw[HE.out],(fun h=>by rw[HE.out] at h;cases h),(fun _=>rfl),M2.out⟩
   ·have hd1:decide (64<n)=false:=decide_eq_false hn1
    have he:hO a b n=0:=by unfold hO;rw[if_pos HC.out,if_pos (by omega)]
    have HE:=zf he
    obtain⟨m,rfl⟩:∃ m:Nat,n=m:=⟨n.toNat,by omega⟩
    have hm64:m≤64:=by omega
    clear he hn0 hn1
    rw[BZ]
    go_wp2_with (at_make;refine bv 26 Tryz.underlying26 rfl (.tmp 20) (.tmp 20) rfl _ _ m rfl rfl rfl rfl (by omega) ?_)
    intro w3 hrow hb3 hs3
    have hB3:=hb3 _ _ (Below.refl _ _) (zn _)
    have hr3:bJ w3 w2.heap.size m (aT (eO m) 0):=by rw[eD,dr];exact hrow
    have hdr:=fun (_:Unit)=>hd
    clear hrow hb3 hs3 hdr
    go_wp2
    go_loopw [24] (fun s24 wr=>∃ i:Nat,s24=.int .i64 i∧i≤m∧bJ wr w2.heap.size m (aT (eO m) i)∧Below w2.heap.size w2 wr) (fun s24 _=>m-(intOf s24).toNat)
    case atStart=>exact⟨0,rfl,zD _,hr3,hB3⟩
    case round =>
     clear hr3 hB3
     obtain⟨i,rfl,him,hr,hbr⟩:=hrel
     by_cases hi:i<m
     ·have hl:i<(aT (eO m) i).length:=by rw[fh _ (by rw[dr];omega),dr];exact hi
      have rc:=hr.cell hl
      have rf:=hr.free i
      have s1:=hr.set i ⟨#[48]⟩
      have hb1:=hbr.setCell (p:=⟨w2.heap.size,i,none⟩) (zn _) (.string ⟨#[48]⟩)
      by_cases h0:i=0
      ·subst h0
       have s2:=s1.set 0 ⟨#[49]⟩
       rw[sB hi] at s2
       have hb2:=hb1.setCell (p:=⟨w2.heap.size,0,none⟩) (zn _) (.string ⟨#[49]⟩)
       have rc2:=s1.cell (j:=0) (by simpa using hl)
       have rf2:=s1.free 0
       clear s1 hb1
       go_wp2
       go_roundw
       case rel=>exact⟨1,by go_num,by omega,s2,hb2⟩
       case measure=>(first | (simp[intOf];done) | (simp[intOf];omega))
      ·have hz:((i:Int) == 0)=false:=by simp;omega
       rw[ui hi h0] at s1
       go_wp2
       go_roundw
       case rel=>exact⟨i+1,by go_num,by omega,s1,hb1⟩
       case measure=>(first | (simp[intOf];done) | (simp[intOf];omega))
     ·have him':i=m:=by omega
      subst him'
      have hfull:aT (eO i) i=eO i:=by have:=eC (eO i);rwa [dr] at this
      rw[hfull] at hr
      have hX:=hr.isS
      rw[dr] at hX
      have HO:=zf (xe _ _ a b (eO i) wr (HF2.out.below hbr) hX HLN.out.1 HLN.out.2.2.1 (by have:=HLN.out.2.1;omega) (by have:=HLN.out.2.2.2;omega) (by rw[dr];omega) (HG2.out.below hbr).g)
      rw[dr] at HO
      have d0':=aa hbr hlt2 d0
      have d1':=aa hbr hlt2 d1
      clear hfull hr hX d0 d1 hi
      go_wp2_with fail
      refine HO.out.mono ?_
      rintro e w5 ⟨u,rfl,hu,hb5⟩
      obtain⟨pu,cu,rfl,-⟩:=id hu.form
      go_wp2
      refine bodyPost_ret (v:=.tuple #[.slice pu _ cu,.int .i64 0]) (by simp[results,Tryz.results34,go_sem];rfl) rfl ⟨_,by rw[HE.out],(fun _=>hu),(fun h=>absurd HE.out h),M2.out.trans ((hbr.trans (hb5.mono hbr.size)).mono M2.out.size)⟩
 ·have HC:=zf (show hO a b n=30 by unfold hO;rw[if_neg hck])
  have hce:av a b=30:=by unfold av;rw[if_neg hck]
  rw[hce] at HCK
  clear hce
  go_wp2_with fail
  refine HCK.out.mono ?_
  rintro e w2 ⟨rfl,hb2⟩
  go_wp2
  refine bodyPost_ret (v:=.tuple #[.slice none 0 0,.int .i64 30]) (by simp[results,Tryz.results34,go_sem]) rfl ⟨_,by rw[HC.out],(fun h=>by rw[HC.out] at h;cases h),(fun _=>rfl),M1.out.trans (hb2.mono M1.out.size)⟩
end Go.Proofs.YtdlioncecgnloaaGreatDoor
