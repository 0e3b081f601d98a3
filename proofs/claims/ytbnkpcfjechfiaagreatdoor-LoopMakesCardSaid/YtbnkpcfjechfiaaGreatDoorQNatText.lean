/- Lemmas of this claim. -/
import Derived.Lib.PathFns
import Derived.Test.YtbnkpcfjechfiaaGreatDoorQPlain
import Derived.Test.YtbnkpcfjechfiaaGreatDoorQNat
set_option linter.all false
set_option maxRecDepth 100000
set_option maxHeartbeats 8000000
namespace Go.Proofs.YtbnkpcfjechfiaaGreatDoor
open Dg Dc
structure oW (s t:List UInt8) (lo:List Nat):Prop where
 ex:∃ r,s=t++r∧r.all a6=true∧aR r=Dg.val BB lo∧(t≠[]→r.length=9*lo.length)
 dig:∀ d∈lo,d<BB
 few:9*lo.length≤s.length+8
theorem AP (s:List UInt8):oW s s []:=⟨⟨[],by simp,rfl,rfl,fun _=>rfl⟩,by simp,by simp⟩
theorem wI {s t:List UInt8}{lo:List Nat}{k:Nat} (h:oW s t lo) (hk:k=t.length-9) (hne:t≠[]) (hd:(t.drop k).all a6=true) :
  oW s (t.take k) (lo++[aR (t.drop k)]):=by
 obtain⟨r,e1,e2,e3,e4⟩:=h.ex;have hr:=e4 hne;have hpos:=Fz.2 hne;have hlen:(t.drop k).length≤9:=by rw[Fq];omega
 have hlt:aR (t.drop k)<BB:=by
  have h1:=fM _ hd;have h2:10 ^ (t.drop k).length≤10 ^ 9:=Fs (by omega) hlen;have h3:(10:Nat) ^ 9=BB:=by decide
  omega
 refine⟨⟨t.drop k++r,?_,?_,?_,?_⟩,?_,?_⟩
 ·rw[←FO,H7];exact e1
 ·rw[Gu,hd,e2];rfl
 ·rw[d6,e3,dQ,hr];have:(10:Nat) ^ (9*lo.length)=BB ^ lo.length:=by rw[GG];rfl
  rw[this,Fw];omega
 ·intro hk2;have:k≠0:=by intro e;rw[e] at hk2;simp at hk2
  simp only[Fl,Fq,Fv,FW];omega
 ·intro d hd;rcases F6.1 hd with hd | hd
  ·exact h.dig d hd
  ·simp at hd;subst hd;exact hlt
 ·have:=h.few;have h5:s.length=t.length+r.length:=by rw[e1];simp
  simp only[Fl,Fv,FW];omega
def cG (s:List UInt8):Option Nat:=if s≠[]∧s.all a6=true then some (aR s) else none
theorem D6 {s:List UInt8}{lo:List Nat} (h:oW s [] lo):s.all a6=true∧lean lo=am BB (aR s):=by
 obtain⟨r,e1,e2,e3,_⟩:=h.ex;simp only[FJ] at e1;subst e1;exact⟨e2,by rw[e3];exact ck aP h.dig⟩
theorem qS {s t:List UInt8}{lo:List Nat}{i:Nat} (h:oW s t lo) (hi:i<t.length) (hb:a6 t[i]=false):s.all a6=false:=by
 obtain⟨r,e1,_⟩:=h.ex;rw[e1,Gu]
 have:t.all a6=false:=by
  rw[FY];intro ht;have:=FH.1 ht t[i] (Fu hi);rw[hb] at this;cases this
 rw[this];rfl
structure NIn (t:List UInt8) (k i n:Nat):Prop where
 all:((t.drop k).take (i-k)).all a6=true
 eq:n=aR ((t.drop k).take (i-k))
theorem lz (t:List UInt8) (k:Nat):NIn t k k 0:=⟨by simp,by simp[aR]⟩
theorem jM {t:List UInt8}{k i n:Nat} (h:NIn t k i n) (hk:k=t.length-9) (hi:i≤t.length):n<1000000000:=by
 have h1:=fM _ h.all;have h2:10 ^ ((t.drop k).take (i-k)).length≤10 ^ 9:=Fs (by omega) (by rw[FA,Fq];omega);have h3:(10:Nat) ^ 9=1000000000:=by decide
 rw[h.eq];omega
theorem nN {t:List UInt8}{k i n:Nat} (h:NIn t k i n) (hki:k≤i) (hi:i<t.length) (hd:a6 t[i]=true):NIn t k (i+1) (10*n+(t[i].toNat-48)):=by
 have e:(t.drop k).take (i+1-k)=(t.drop k).take (i-k)++[t[i]]:=by
  rw[show i+1-k=i-k+1 by omega,Gz (by rw[Fq];omega),List.getElem_drop];congr 2;simp only[show k+(i-k)=i by omega]
 refine⟨?_,?_⟩
 ·rw[e,Gu,h.all];simp[hd]
 ·rw[e,lR,←h.eq]
theorem qR {t:List UInt8}{k n:Nat} (h:NIn t k t.length n):(t.drop k).all a6=true∧n=aR (t.drop k):=by
 have e:(t.drop k).take (t.length-k)=t.drop k:=Fi (by rw[Fq];omega);have h1:=h.all;have h2:=h.eq;rw[e] at h1 h2;exact⟨h1,h2⟩
open Go.RowKit Dg Dc
theorem nB {c:UInt8} (h:(c.toNat:Int)<48):a6 c=false:=by simp[a6];omega
theorem nA {c:UInt8} (h:(57:Int)<(c.toNat:Int)):a6 c=false:=by simp[a6];omega
theorem jI {c:UInt8} (h1:¬ (c.toNat:Int)<48) (h2:¬ (57:Int)<(c.toNat:Int)):a6 c=true:=by simp[a6];omega
theorem bI (s:ByteArray) (k:Nat):(s.extract 0 k).data.toList=s.data.toList.take k:=by simp
theorem jX (s:ByteArray):s.toList=s.data.toList:=by
 exact ByteArray.toList_eq s
def rK (s:ByteArray) (w:World) (e:Ending) (w':World):Prop :=
 (∃ n v,cG s.data.toList=some n∧e=.returned (.tuple #[v,.bool true])∧et w' w.heap.size v (am BB n)∧Below w.heap.size w w') ∨
 (cG s.data.toList=none∧e=.returned (.tuple #[.slice none 0 0,.bool false])∧Below w.heap.size w w')
theorem et.lean {w:World}{base:Nat}{p:Option Addr}{N cap:Nat}{l:List Nat} (h:et w base (.slice p N cap) l):et w base (.slice p (Dg.lean l).length cap) (Dg.lean l):=by
 obtain⟨h1,h2⟩:=h;refine⟨by rw[l9,GE],?_⟩;have hle:=bA l;rcases h2 with ⟨h',h0⟩ | ⟨g',cap',cur,e,hb,hg,hn,hm,hs,ht⟩
 ·simp at h';obtain⟨rfl,_,rfl⟩:=h';refine Or.inl ⟨by rw[show (Dg.lean l).length=0 by omega],by omega⟩
 ·simp at e;obtain⟨rfl,_,rfl⟩:=e;refine Or.inr ⟨g',cap,cur,rfl,hb,hg,Fj hle hn,hm,hs,?_⟩;rw[GE] at ht ⊢;have:List.take (Dg.lean l).length (List.take l.length cur.toList)=fB (Dg.lean l):=by rw[ht,←qg,jK]
  rw[Im,F7 hle] at this;exact this
theorem sW (s:ByteArray) (w:World) (hs:s.size<100000) :
  Calls Tryz.prog 230 #[.string s] w (rK s w):=by
 by_cases hne:s.data.toList=[]
 ·have hne':s.toList.isEmpty=true:=by rw[jX,hne];rfl
  have HN:=E5 hne;clear hne;go_enter Tryz.func230,Tryz.ntmps230;go_wp2
  go_ret2
  exact Or.inr ⟨by simp[cG,HN.out],rfl,Below.refl _ _⟩
 ·have hne':s.toList.isEmpty=false:=by rw[jX];exact List.isEmpty_eq_false_iff.2 hne
  have HN:=E5 hne;clear hne;go_enter Tryz.func230,Tryz.ntmps230;go_wp2;go_loopw [0,4] (fun s0 s4 wr=>∃ (t:ByteArray) (lo:List Nat),s0=.string t∧t.size≤s.size∧Hid (oW s.data.toList t.data.toList lo)∧Hid (et wr w.heap.size s4 lo)∧Below w.heap.size w wr) (fun s0 _ _=>match s0 with | .string t=>t.size | _=>0)
  case atStart=>exact⟨s,[],rfl,Fb _,AP _,World.ownsRow_nil _ _ _ _,Below.refl _ _⟩
  case round =>
   obtain⟨t,lo,rfl,hts,hrel1,hown,hb⟩:=hrel;by_cases h0:t.size=0
   ·have ht:t.data.toList=[]:=by apply FS;simpa using h0
    have hend:=hrel1.out;rw[ht] at hend;have HE:=E5 (D6 hend);have ho:=hown.out;have hu:=ho.isU;obtain⟨p,cap,rfl,_,_,_⟩:=hu;clear hend;go_wp2_with (go_at_call 236;refine (hO _ _ _ lo _ (et.isU hown.out)).mono ?_;rintro e w' ⟨rfl,rfl⟩)
    go_ret2
    refine Or.inl ⟨aR s.data.toList,_,?_,rfl,?_,hb⟩
    ·unfold cG;rw[if_pos ⟨HN.out,HE.out.1⟩]
    ·rw[←HE.out.2];exact et.lean hown.out
   ·have htl:t.data.toList.length=t.size:=by simp
    have HTL:=E5 htl;clear htl;obtain⟨k,hk⟩:∃ k:Nat,k=t.size-9:=⟨_,rfl⟩;have HK:=E5 hk;have hkle:k≤t.size:=by omega
    by_cases h9:9<t.size
    ·have hkI:(t.size:Int)-9=k:=by omega
     clear hk;have h0n:0<t.size:=by omega
     go_wp2;go_loopw [6,7] (fun s6 s7 wq=>∃ n i:Nat,s6=.int .u64 n∧s7=.int .i64 i∧k≤i∧i≤t.size∧Hid (NIn t.data.toList k i n)∧wr=wq) (fun _ s7 _=>t.size-(intOf s7).toNat)
     case atStart=>exact⟨0,k,rfl,by go_num,Fb _,hkle,lz _ _,rfl⟩
     case round =>
      obtain⟨n,i,rfl,rfl,hki,hit,hin,rfl⟩:=hrel;by_cases hi:i<t.size
      ·have hnb:=jM hin.out (by rw[HTL.out];exact HK.out) (by rw[HTL.out];exact hit);have hil:i<t.data.toList.length:=by rw[HTL.out];exact hi
       have hbyte:Hid (t.data.toList[i]=t[i]):=rfl;rcases (by omega:(t[i].toNat:Int)<48∨(57:Int)<(t[i].toNat:Int)∨(48≤(t[i].toNat:Int)∧(t[i].toNat:Int)≤57)) with hc | hc | ⟨hc,hc2⟩
       ·go_wp2
        go_ret2
        refine Or.inr ⟨?_,rfl,hb⟩;unfold cG;rw[if_neg];intro h;have:=qS hrel1.out hil (by rw[hbyte.out];exact nB hc);rw[this] at h;exact absurd h.2 (by simp)
       ·go_wp2
        go_ret2
        refine Or.inr ⟨?_,rfl,hb⟩;unfold cG;rw[if_neg];intro h;have:=qS hrel1.out hil (by rw[hbyte.out];exact nA hc);rw[this] at h;exact absurd h.2 (by simp)
       ·go_wp2;go_roundw
        case rel =>
         have hst:=nN hin.out hki hil (by rw[hbyte.out];exact jI (by omega) (by omega));rw[hbyte.out] at hst;exact⟨10*n+(t[i].toNat-48),i+1,by go_num,by go_num,by omega,by omega,hst,trivial⟩
        case measure=>simp[intOf];omega
      ·have hit2:i=t.size:=by omega
       subst hit2;clear hi hit;have hend:=qR (k:=k) (n:=n) (by rw[HTL.out];exact hin.out);have hnb:=jM hin.out (by rw[HTL.out];exact HK.out) (by rw[HTL.out];exact Fb _);have HE:=E5 hend;clear hend;have hlo:=hrel1.out.few;have hsl:s.data.toList.length=s.size:=by simp
       rw[hsl] at hlo;have hbs:=hb.size;clear hsl;go_wp2_with (at_builtin;refine bC 149 Tryz.underlying149 rfl (.tmp 42) (.tmp 44) rfl w.heap.size _ lo _ n rfl rfl hown.out rfl (by omega) hbs ?_)
       intro v' w1 hown' hb';have hb1:=hb' _ _ hb (Fb _);have HO:=E5 hown';clear hown' hb';go_wp2;go_roundw;case rel=>exact⟨_,lo++[n],rfl,by simp;omega,(by unfold Hid;have hst:=wI hrel1.out (by rw[HTL.out];exact HK.out) (by intro e;have:=HTL.out;rw[e] at this;simp at this;omega) HE.out.1;rw[←HE.out.2] at hst;rw[bI];exact hst),HO,hb1⟩
       case measure=>simp;omega
    ·have hk0:k=0:=by omega
     have HK0:=E5 hk0;clear hk hk0;have h0n:0<t.size:=by omega
     go_wp2;go_loopw [6,7] (fun s6 s7 wq=>∃ n i:Nat,s6=.int .u64 n∧s7=.int .i64 i∧k≤i∧i≤t.size∧Hid (NIn t.data.toList k i n)∧wr=wq) (fun _ s7 _=>t.size-(intOf s7).toNat)
     case atStart=>exact⟨0,k,rfl,by rw[HK0.out];rfl,Fb _,hkle,lz _ _,rfl⟩
     case round =>
      obtain⟨n,i,rfl,rfl,hki,hit,hin,rfl⟩:=hrel;by_cases hi:i<t.size
      ·have hnb:=jM hin.out (by rw[HTL.out];exact HK.out) (by rw[HTL.out];exact hit);have hil:i<t.data.toList.length:=by rw[HTL.out];exact hi
       have hbyte:Hid (t.data.toList[i]=t[i]):=rfl;rcases (by omega:(t[i].toNat:Int)<48∨(57:Int)<(t[i].toNat:Int)∨(48≤(t[i].toNat:Int)∧(t[i].toNat:Int)≤57)) with hc | hc | ⟨hc,hc2⟩
       ·go_wp2
        go_ret2
        refine Or.inr ⟨?_,rfl,hb⟩;unfold cG;rw[if_neg];intro h;have:=qS hrel1.out hil (by rw[hbyte.out];exact nB hc);rw[this] at h;exact absurd h.2 (by simp)
       ·go_wp2
        go_ret2
        refine Or.inr ⟨?_,rfl,hb⟩;unfold cG;rw[if_neg];intro h;have:=qS hrel1.out hil (by rw[hbyte.out];exact nA hc);rw[this] at h;exact absurd h.2 (by simp)
       ·go_wp2;go_roundw
        case rel =>
         have hst:=nN hin.out hki hil (by rw[hbyte.out];exact jI (by omega) (by omega));rw[hbyte.out] at hst;exact⟨10*n+(t[i].toNat-48),i+1,by go_num,by go_num,by omega,by omega,hst,trivial⟩
        case measure=>simp[intOf];omega
      ·have hit2:i=t.size:=by omega
       subst hit2;clear hi hit;have hend:=qR (k:=k) (n:=n) (by rw[HTL.out];exact hin.out);have hnb:=jM hin.out (by rw[HTL.out];exact HK.out) (by rw[HTL.out];exact Fb _);have HE:=E5 hend;clear hend;have hlo:=hrel1.out.few;have hsl:s.data.toList.length=s.size:=by simp
       rw[hsl] at hlo;have hbs:=hb.size;clear hsl;go_wp2_with (at_builtin;refine bC 149 Tryz.underlying149 rfl (.tmp 42) (.tmp 44) rfl w.heap.size _ lo _ n rfl rfl hown.out rfl (by omega) hbs ?_)
       intro v' w1 hown' hb';have hb1:=hb' _ _ hb (Fb _);have HO:=E5 hown';clear hown' hb';go_wp2;go_roundw;case rel=>exact⟨_,lo++[n],rfl,by simp,(by unfold Hid;have hst:=wI hrel1.out (by rw[HTL.out];exact HK.out) (by intro e;have:=HTL.out;rw[e] at this;simp at this;omega) HE.out.1;rw[←HE.out.2] at hst;rw[HK0.out,Fg] at hst;exact hst),HO,hb1⟩
       case measure=>simp;omega
end Go.Proofs.YtbnkpcfjechfiaaGreatDoor
