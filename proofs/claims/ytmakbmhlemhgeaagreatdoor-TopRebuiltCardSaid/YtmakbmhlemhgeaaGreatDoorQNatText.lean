/- L -/
import Derived.Lib.PathFns
import Derived.Test.YtmakbmhlemhgeaaGreatDoorQPlain
import Derived.Test.YtmakbmhlemhgeaaGreatDoorQNat
set_option linter.all false
set_option maxRecDepth 100000
set_option maxHeartbeats 8000000
namespace Go.Proofs.YtmakbmhlemhgeaaGreatDoor
open Dg Dc
structure hZ (s t:List UInt8) (lo:List Nat):Prop where
 ex:∃ r,s=t++r/\r.all aL=true/\aC r=Dg.val BB lo/\(t≠[]->r.length=9*lo.length)
 dig:∀ d∈lo,d<BB
 few:9*lo.length<=s.length+8
theorem ny (s:List UInt8):hZ s s []:=⟨⟨[],by simp,rfl,rfl,fun _=>rfl⟩,by simp,by simp⟩
theorem lw {s t:List UInt8}{lo:List Nat}{k:Nat} (h:hZ s t lo) (hk:k=t.length-9) (hne:t≠[]) (hd:(t.drop k).all aL=true) :
  hZ s (t.take k) (lo++[aC (t.drop k)]):=by
 obtain⟨r,e1,e2,e3,e4⟩:=h.ex;have hr:=e4 hne;have hpos:=rN.2 hne;have hlen:(t.drop k).length<=9:=by rw[rW];omega
 have hlt:aC (t.drop k)<BB:=by
  have h1:=eR _ hd;have h2:10 ^ (t.drop k).length<=10 ^ 9:=rI (by omega) hlen;have h3:(10:Nat) ^ 9=BB:=by decide
  omega
 refine⟨⟨t.drop k++r,?_,?_,?_,?_⟩,?_,?_⟩
 ·rw[<-sK,List.take_append_drop];exact e1
 ·rw[tk,hd,e2];rfl
 ·rw[cL,e3,cX,hr];have:(10:Nat) ^ (9*lo.length)=BB ^ lo.length:=by rw[sE];rfl
  rw[this,rQ];omega
 ·intro hk2;have:k≠0:=by intro e;rw[e] at hk2;simp at hk2
  simp only[rE,rW,rM,r8];omega
 ·intro d hd;rcases tn.1 hd with hd | hd
  ·exact h.dig d hd
  ·simp at hd;subst hd;exact hlt
 ·have:=h.few;have h5:s.length=t.length+r.length:=by rw[e1];simp
  simp only[rE,rM,r8];omega
def aK (s:List UInt8):Option Nat:=if s≠[]/\s.all aL=true then some (aC s) else none
theorem qu {s:List UInt8}{lo:List Nat} (h:hZ s [] lo):s.all aL=true/\lean lo=aa BB (aC s):=by
 obtain⟨r,e1,e2,e3,_⟩:=h.ex;simp only[sZ] at e1;subst e1;exact⟨e2,by rw[e3];exact ci al h.dig⟩
theorem iX {s t:List UInt8}{lo:List Nat}{i:Nat} (h:hZ s t lo) (hi:i<t.length) (hb:aL t[i]=false):s.all aL=false:=by
 obtain⟨r,e1,_⟩:=h.ex;rw[e1,tk]
 have:t.all aL=false:=by
  rw[sC];intro ht;have:=rO.1 ht t[i] (rU hi);rw[hb] at this;cases this
 rw[this];rfl
structure NIn (t:List UInt8) (k i n:Nat):Prop where
 all:((t.drop k).take (i-k)).all aL=true
 eq:n=aC ((t.drop k).take (i-k))
theorem it (t:List UInt8) (k:Nat):NIn t k k 0:=⟨by simp,by simp[aC]⟩
theorem dS {t:List UInt8}{k i n:Nat} (h:NIn t k i n) (hk:k=t.length-9) (hi:i<=t.length):n<1000000000:=by
 have h1:=eR _ h.all;have h2:10 ^ ((t.drop k).take (i-k)).length<=10 ^ 9:=rI (by omega) (by rw[rV,rW];omega);have h3:(10:Nat) ^ 9=1000000000:=by decide
 rw[h.eq];omega
theorem jR {t:List UInt8}{k i n:Nat} (h:NIn t k i n) (hki:k<=i) (hi:i<t.length) (hd:aL t[i]=true):NIn t k (i+1) (10*n+(t[i].toNat-48)):=by
 have e:(t.drop k).take (i+1-k)=(t.drop k).take (i-k)++[t[i]]:=by
  rw[show i+1-k=i-k+1 by omega,sn (by rw[rW];omega),List.getElem_drop];congr 2;simp only[show k+(i-k)=i by omega]
 refine⟨?_,?_⟩
 ·rw[e,tk,h.all];simp[hd]
 ·rw[e,fs,<-h.eq]
theorem lr {t:List UInt8}{k n:Nat} (h:NIn t k t.length n):(t.drop k).all aL=true/\n=aC (t.drop k):=by
 have e:(t.drop k).take (t.length-k)=t.drop k:=rz (by rw[rW];omega);have h1:=h.all;have h2:=h.eq;rw[e] at h1 h2;exact⟨h1,h2⟩
open Go.RowKit Dg Dc
theorem jE {c:UInt8} (h:(c.toNat:Int)<48):aL c=false:=by simp[aL];omega
theorem jD {c:UInt8} (h:(57:Int)<(c.toNat:Int)):aL c=false:=by simp[aL];omega
theorem ij {c:UInt8} (h1:¬ (c.toNat:Int)<48) (h2:¬ (57:Int)<(c.toNat:Int)):aL c=true:=by simp[aL];omega
theorem da (s:ByteArray) (k:Nat):(s.extract 0 k).data.toList=s.data.toList.take k:=by simp
theorem dW (s:ByteArray):s.toList=s.data.toList:=by
 exact ByteArray.toList_eq s
def ji (s:ByteArray) (w:World) (e:Ending) (w':World):Prop :=
 (∃ n v,aK s.data.toList=some n/\e=.returned (.tuple #[v,.bool true])/\bF w' w.heap.size v (aa BB n)/\Below w.heap.size w w') \/
 (aK s.data.toList=none/\e=.returned (.tuple #[.slice none 0 0,.bool false])/\Below w.heap.size w w')
theorem bF.lean {w:World}{base:Nat}{p:Option Addr}{N cap:Nat}{l:List Nat} (h:bF w base (.slice p N cap) l):bF w base (.slice p (Dg.lean l).length cap) (Dg.lean l):=by
 obtain⟨h1,h2⟩:=h;refine⟨by rw[fG,sM],?_⟩;have hle:=bo l;rcases h2 with ⟨h',h0⟩ | ⟨g',cap',cur,e,hb,hg,hn,hm,hs,ht⟩
 ·simp at h';obtain⟨rfl,_,rfl⟩:=h';refine Or.inl ⟨by rw[show (Dg.lean l).length=0 by omega],by omega⟩
 ·simp at e;obtain⟨rfl,_,rfl⟩:=e;refine Or.inr ⟨g',cap,cur,rfl,hb,hg,rX hle hn,hm,hs,?_⟩;rw[sM] at ht |-;have:List.take (Dg.lean l).length (List.take l.length cur.toList)=bZ (Dg.lean l):=by rw[ht,<-iL,eY]
  rw[List.take_take,r9 hle] at this;exact this
theorem jP (s:ByteArray) (w:World) (hs:s.size<100000) :
  Calls Tryz.prog 211 #[.string s] w (ji s w):=by
 by_cases hne:s.data.toList=[]
 ·have hne':s.toList.isEmpty=true:=by rw[dW,hne];rfl
  have HN:=ri hne;clear hne;go_enter Tryz.func211,Tryz.ntmps211;go_wp2
  go_ret2
  exact Or.inr ⟨by simp[aK,HN.out],rfl,Below.refl _ _⟩
 ·have hne':s.toList.isEmpty=false:=by rw[dW];exact List.isEmpty_eq_false_iff.2 hne
  have HN:=ri hne;clear hne;go_enter Tryz.func211,Tryz.ntmps211;go_wp2;go_loopw [0,4] (fun s0 s4 wr=>∃ (t:ByteArray) (lo:List Nat),s0=.string t/\t.size<=s.size/\Hid (hZ s.data.toList t.data.toList lo)/\Hid (bF wr w.heap.size s4 lo)/\Below w.heap.size w wr) (fun s0 _ _=>match s0 with | .string t=>t.size | _=>0)
  case atStart=>exact⟨s,[],rfl,rp _,ny _,World.ownsRow_nil _ _ _ _,Below.refl _ _⟩
  case round =>
   obtain⟨t,lo,rfl,hts,hrel1,hown,hb⟩:=hrel;by_cases h0:t.size=0
   ·have ht:t.data.toList=[]:=by apply sd;simpa using h0
    have hend:=hrel1.out;rw[ht] at hend;have HE:=ri (qu hend);have ho:=hown.out;have hu:=ho.isU;obtain⟨p,cap,rfl,_,_,_⟩:=hu;clear hend;go_wp2_with (go_at_call 169;refine (cS _ _ _ lo _ (bF.isU hown.out)).mono ?_;rintro e w' ⟨rfl,rfl⟩)
    go_ret2
    refine Or.inl ⟨aC s.data.toList,_,?_,rfl,?_,hb⟩
    ·unfold aK;rw[if_pos ⟨HN.out,HE.out.1⟩]
    ·rw[<-HE.out.2];exact bF.lean hown.out
   ·have htl:t.data.toList.length=t.size:=by simp
    have HTL:=ri htl;clear htl;obtain⟨k,hk⟩:∃ k:Nat,k=t.size-9:=⟨_,rfl⟩;have HK:=ri hk;have hkle:k<=t.size:=by omega
    by_cases h9:9<t.size
    ·have hkI:(t.size:Int)-9=k:=by omega
     clear hk;have h0n:0<t.size:=by omega
     go_wp2;go_loopw [6,7] (fun s6 s7 wq=>∃ n i:Nat,s6=.int .u64 n/\s7=.int .i64 i/\k<=i/\i<=t.size/\Hid (NIn t.data.toList k i n)/\wr=wq) (fun _ s7 _=>t.size-(intOf s7).toNat)
     case atStart=>exact⟨0,k,rfl,by go_num,rp _,hkle,it _ _,rfl⟩
     case round =>
      obtain⟨n,i,rfl,rfl,hki,hit,hin,rfl⟩:=hrel;by_cases hi:i<t.size
      ·have hnb:=dS hin.out (by rw[HTL.out];exact HK.out) (by rw[HTL.out];exact hit);have hil:i<t.data.toList.length:=by rw[HTL.out];exact hi
       have hbyte:Hid (t.data.toList[i]=t[i]):=rfl;rcases (by omega:(t[i].toNat:Int)<48\/(57:Int)<(t[i].toNat:Int)\/(48<=(t[i].toNat:Int)/\(t[i].toNat:Int)<=57)) with hc | hc | ⟨hc,hc2⟩
       ·go_wp2
        go_ret2
        refine Or.inr ⟨?_,rfl,hb⟩;unfold aK;rw[if_neg];intro h;have:=iX hrel1.out hil (by rw[hbyte.out];exact jE hc);rw[this] at h;exact absurd h.2 (by simp)
       ·go_wp2
        go_ret2
        refine Or.inr ⟨?_,rfl,hb⟩;unfold aK;rw[if_neg];intro h;have:=iX hrel1.out hil (by rw[hbyte.out];exact jD hc);rw[this] at h;exact absurd h.2 (by simp)
       ·go_wp2;go_roundw
        case rel =>
         have hst:=jR hin.out hki hil (by rw[hbyte.out];exact ij (by omega) (by omega));rw[hbyte.out] at hst;exact⟨10*n+(t[i].toNat-48),i+1,by go_num,by go_num,by omega,by omega,hst,trivial⟩
        case measure=>simp[intOf];omega
      ·have hit2:i=t.size:=by omega
       subst hit2;clear hi hit;have hend:=lr (k:=k) (n:=n) (by rw[HTL.out];exact hin.out);have hnb:=dS hin.out (by rw[HTL.out];exact HK.out) (by rw[HTL.out];exact rp _);have HE:=ri hend;clear hend;have hlo:=hrel1.out.few;have hsl:s.data.toList.length=s.size:=by simp
       rw[hsl] at hlo;have hbs:=hb.size;clear hsl;go_wp2_with (at_builtin;refine aw 104 Tryz.underlying104 rfl (.tmp 42) (.tmp 44) rfl w.heap.size _ lo _ n rfl rfl hown.out rfl (by omega) hbs ?_)
       intro v' w1 hown' hb';have hb1:=hb' _ _ hb (rp _);have HO:=ri hown';clear hown' hb';go_wp2;go_roundw;case rel=>exact⟨_,lo++[n],rfl,by simp;omega,(by unfold Hid;have hst:=lw hrel1.out (by rw[HTL.out];exact HK.out) (by intro e;have:=HTL.out;rw[e] at this;simp at this;omega) HE.out.1;rw[<-HE.out.2] at hst;rw[da];exact hst),HO,hb1⟩
       case measure=>simp;omega
    ·have hk0:k=0:=by omega
     have HK0:=ri hk0;clear hk hk0;have h0n:0<t.size:=by omega
     go_wp2;go_loopw [6,7] (fun s6 s7 wq=>∃ n i:Nat,s6=.int .u64 n/\s7=.int .i64 i/\k<=i/\i<=t.size/\Hid (NIn t.data.toList k i n)/\wr=wq) (fun _ s7 _=>t.size-(intOf s7).toNat)
     case atStart=>exact⟨0,k,rfl,by rw[HK0.out];rfl,rp _,hkle,it _ _,rfl⟩
     case round =>
      obtain⟨n,i,rfl,rfl,hki,hit,hin,rfl⟩:=hrel;by_cases hi:i<t.size
      ·have hnb:=dS hin.out (by rw[HTL.out];exact HK.out) (by rw[HTL.out];exact hit);have hil:i<t.data.toList.length:=by rw[HTL.out];exact hi
       have hbyte:Hid (t.data.toList[i]=t[i]):=rfl;rcases (by omega:(t[i].toNat:Int)<48\/(57:Int)<(t[i].toNat:Int)\/(48<=(t[i].toNat:Int)/\(t[i].toNat:Int)<=57)) with hc | hc | ⟨hc,hc2⟩
       ·go_wp2
        go_ret2
        refine Or.inr ⟨?_,rfl,hb⟩;unfold aK;rw[if_neg];intro h;have:=iX hrel1.out hil (by rw[hbyte.out];exact jE hc);rw[this] at h;exact absurd h.2 (by simp)
       ·go_wp2
        go_ret2
        refine Or.inr ⟨?_,rfl,hb⟩;unfold aK;rw[if_neg];intro h;have:=iX hrel1.out hil (by rw[hbyte.out];exact jD hc);rw[this] at h;exact absurd h.2 (by simp)
       ·go_wp2;go_roundw
        case rel =>
         have hst:=jR hin.out hki hil (by rw[hbyte.out];exact ij (by omega) (by omega));rw[hbyte.out] at hst;exact⟨10*n+(t[i].toNat-48),i+1,by go_num,by go_num,by omega,by omega,hst,trivial⟩
        case measure=>simp[intOf];omega
      ·have hit2:i=t.size:=by omega
       subst hit2;clear hi hit;have hend:=lr (k:=k) (n:=n) (by rw[HTL.out];exact hin.out);have hnb:=dS hin.out (by rw[HTL.out];exact HK.out) (by rw[HTL.out];exact rp _);have HE:=ri hend;clear hend;have hlo:=hrel1.out.few;have hsl:s.data.toList.length=s.size:=by simp
       rw[hsl] at hlo;have hbs:=hb.size;clear hsl;go_wp2_with (at_builtin;refine aw 104 Tryz.underlying104 rfl (.tmp 42) (.tmp 44) rfl w.heap.size _ lo _ n rfl rfl hown.out rfl (by omega) hbs ?_)
       intro v' w1 hown' hb';have hb1:=hb' _ _ hb (rp _);have HO:=ri hown';clear hown' hb';go_wp2;go_roundw;case rel=>exact⟨_,lo++[n],rfl,by simp,(by unfold Hid;have hst:=lw hrel1.out (by rw[HTL.out];exact HK.out) (by intro e;have:=HTL.out;rw[e] at this;simp at this;omega) HE.out.1;rw[<-HE.out.2] at hst;rw[HK0.out,rG] at hst;exact hst),HO,hb1⟩
       case measure=>simp;omega
end Go.Proofs.YtmakbmhlemhgeaaGreatDoor
