/- Lemmas of this claim. -/
import Derived.Lib.PathFns
import Derived.Test.YtbnkpcfjechfiaaGreatDoorYPlain
import Derived.Test.YtbnkpcfjechfiaaGreatDoorYNat
set_option linter.all false
set_option maxRecDepth 100000
set_option maxHeartbeats 8000000
namespace Go.Proofs.YtbnkpcfjechfiaaGreatDoor
open Dg Dc
structure pD (s t:List UInt8) (lo:List Nat):Prop where
 ex:∃ r,s=t++r∧r.all a_=true∧aS r=Dg.val BB lo∧(t≠[]→r.length=9*lo.length)
 dig:∀ d∈lo,d<BB
 few:9*lo.length≤s.length+8
theorem A9 (s:List UInt8):pD s s []:=⟨⟨[],by simp,rfl,rfl,fun _=>rfl⟩,by simp,by simp⟩
theorem wV {s t:List UInt8}{lo:List Nat}{k:Nat} (h:pD s t lo) (hk:k=t.length-9) (hne:t≠[]) (hd:(t.drop k).all a_=true) :
  pD s (t.take k) (lo++[aS (t.drop k)]):=by
 obtain⟨r,e1,e2,e3,e4⟩:=h.ex;have hr:=e4 hne;have hpos:=FN.2 hne;have hlen:(t.drop k).length≤9:=by rw[FE];omega
 have hlt:aS (t.drop k)<BB:=by
  have h1:=fZ _ hd;have h2:10 ^ (t.drop k).length≤10 ^ 9:=FI (by omega) hlen;have h3:(10:Nat) ^ 9=BB:=by decide
  omega
 refine⟨⟨t.drop k++r,?_,?_,?_,?_⟩,?_,?_⟩
 ·rw[←F7,In];exact e1
 ·rw[GQ,hd,e2];rfl
 ·rw[d8,e3,dS,hr];have:(10:Nat) ^ (9*lo.length)=BB ^ lo.length:=by rw[G3];rfl
  rw[this,FL];omega
 ·intro hk2;have:k≠0:=by intro e;rw[e] at hk2;simp at hk2
  simp only[FA,FE,FK,Gj];omega
 ·intro d hd;rcases Gt.1 hd with hd | hd
  ·exact h.dig d hd
  ·simp at hd;subst hd;exact hlt
 ·have:=h.few;have h5:s.length=t.length+r.length:=by rw[e1];simp
  simp only[FA,FK,Gj];omega
def cP (s:List UInt8):Option Nat:=if s≠[]∧s.all a_=true then some (aS s) else none
theorem En {s:List UInt8}{lo:List Nat} (h:pD s [] lo):s.all a_=true∧lean lo=ar BB (aS s):=by
 obtain⟨r,e1,e2,e3,_⟩:=h.ex;simp only[F6] at e1;subst e1;exact⟨e2,by rw[e3];exact cH aQ h.dig⟩
theorem rz {s t:List UInt8}{lo:List Nat}{i:Nat} (h:pD s t lo) (hi:i<t.length) (hb:a_ t[i]=false):s.all a_=false:=by
 obtain⟨r,e1,_⟩:=h.ex;rw[e1,GQ]
 have:t.all a_=false:=by
  rw[Gl];intro ht;have:=FX.1 ht t[i] (FG hi);rw[hb] at this;cases this
 rw[this];rfl
structure NIn (t:List UInt8) (k i n:Nat):Prop where
 all:((t.drop k).take (i-k)).all a_=true
 eq:n=aS ((t.drop k).take (i-k))
theorem lO (t:List UInt8) (k:Nat):NIn t k k 0:=⟨by simp,by simp[aS]⟩
theorem jY {t:List UInt8}{k i n:Nat} (h:NIn t k i n) (hk:k=t.length-9) (hi:i≤t.length):n<1000000000:=by
 have h1:=fZ _ h.all;have h2:10 ^ ((t.drop k).take (i-k)).length≤10 ^ 9:=FI (by omega) (by rw[FM,FE];omega);have h3:(10:Nat) ^ 9=1000000000:=by decide
 rw[h.eq];omega
theorem od {t:List UInt8}{k i n:Nat} (h:NIn t k i n) (hki:k≤i) (hi:i<t.length) (hd:a_ t[i]=true):NIn t k (i+1) (10*n+(t[i].toNat-48)):=by
 have e:(t.drop k).take (i+1-k)=(t.drop k).take (i-k)++[t[i]]:=by
  rw[show i+1-k=i-k+1 by omega,GT (by rw[FE];omega),List.getElem_drop];congr 2;simp only[show k+(i-k)=i by omega]
 refine⟨?_,?_⟩
 ·rw[e,GQ,h.all];simp[hd]
 ·rw[e,me,←h.eq]
theorem rj {t:List UInt8}{k n:Nat} (h:NIn t k t.length n):(t.drop k).all a_=true∧n=aS (t.drop k):=by
 have e:(t.drop k).take (t.length-k)=t.drop k:=Fx (by rw[FE];omega);have h1:=h.all;have h2:=h.eq;rw[e] at h1 h2;exact⟨h1,h2⟩
open Go.RowKit Dg Dc
theorem nU {c:UInt8} (h:(c.toNat:Int)<48):a_ c=false:=by simp[a_];omega
theorem nT {c:UInt8} (h:(57:Int)<(c.toNat:Int)):a_ c=false:=by simp[a_];omega
theorem jT {c:UInt8} (h1:¬ (c.toNat:Int)<48) (h2:¬ (57:Int)<(c.toNat:Int)):a_ c=true:=by simp[a_];omega
theorem bJ (s:ByteArray) (k:Nat):(s.extract 0 k).data.toList=s.data.toList.take k:=by simp
theorem kc (s:ByteArray):s.toList=s.data.toList:=by
 exact ByteArray.toList_eq s
def r8 (s:ByteArray) (w:World) (e:Ending) (w':World):Prop :=
 (∃ n v,cP s.data.toList=some n∧e=.returned (.tuple #[v,.bool true])∧eC w' w.heap.size v (ar BB n)∧Below w.heap.size w w') ∨
 (cP s.data.toList=none∧e=.returned (.tuple #[.slice none 0 0,.bool false])∧Below w.heap.size w w')
theorem eC.lean {w:World}{base:Nat}{p:Option Addr}{N cap:Nat}{l:List Nat} (h:eC w base (.slice p N cap) l):eC w base (.slice p (Dg.lean l).length cap) (Dg.lean l):=by
 obtain⟨h1,h2⟩:=h;refine⟨by rw[mH,G1],?_⟩;have hle:=bD l;rcases h2 with ⟨h',h0⟩ | ⟨g',cap',cur,e,hb,hg,hn,hm,hs,ht⟩
 ·simp at h';obtain⟨rfl,_,rfl⟩:=h';refine Or.inl ⟨by rw[show (Dg.lean l).length=0 by omega],by omega⟩
 ·simp at e;obtain⟨rfl,_,rfl⟩:=e;refine Or.inr ⟨g',cap,cur,rfl,hb,hg,FB hle hn,hm,hs,?_⟩;rw[G1] at ht ⊢;have:List.take (Dg.lean l).length (List.take l.length cur.toList)=fL (Dg.lean l):=by rw[ht,←qE,jV]
  rw[IA,Gf hle] at this;exact this
theorem tw (s:ByteArray) (w:World) (hs:s.size<100000) :
  Calls Tryz.prog 230 #[.string s] w (r8 s w):=by
 by_cases hne:s.data.toList=[]
 ·have hne':s.toList.isEmpty=true:=by rw[kc,hne];rfl
  have HN:=Fi hne;clear hne;go_enter Tryz.func230,Tryz.ntmps230;go_wp2
  go_ret2
  exact Or.inr ⟨by simp[cP,HN.out],rfl,Below.refl _ _⟩
 ·have hne':s.toList.isEmpty=false:=by rw[kc];exact List.isEmpty_eq_false_iff.2 hne
  have HN:=Fi hne;clear hne;go_enter Tryz.func230,Tryz.ntmps230;go_wp2;go_loopw [0,4] (fun s0 s4 wr=>∃ (t:ByteArray) (lo:List Nat),s0=.string t∧t.size≤s.size∧Hid (pD s.data.toList t.data.toList lo)∧Hid (eC wr w.heap.size s4 lo)∧Below w.heap.size w wr) (fun s0 _ _=>match s0 with | .string t=>t.size | _=>0)
  case atStart=>exact⟨s,[],rfl,Fq _,A9 _,World.ownsRow_nil _ _ _ _,Below.refl _ _⟩
  case round =>
   obtain⟨t,lo,rfl,hts,hrel1,hown,hb⟩:=hrel;by_cases h0:t.size=0
   ·have ht:t.data.toList=[]:=by apply Gb;simpa using h0
    have hend:=hrel1.out;rw[ht] at hend;have HE:=Fi (En hend);have ho:=hown.out;have hu:=ho.isU;obtain⟨p,cap,rfl,_,_,_⟩:=hu;clear hend;go_wp2_with (go_at_call 236;refine (ik _ _ _ lo _ (eC.isU hown.out)).mono ?_;rintro e w' ⟨rfl,rfl⟩)
    go_ret2
    refine Or.inl ⟨aS s.data.toList,_,?_,rfl,?_,hb⟩
    ·unfold cP;rw[if_pos ⟨HN.out,HE.out.1⟩]
    ·rw[←HE.out.2];exact eC.lean hown.out
   ·have htl:t.data.toList.length=t.size:=by simp
    have HTL:=Fi htl;clear htl;obtain⟨k,hk⟩:∃ k:Nat,k=t.size-9:=⟨_,rfl⟩;have HK:=Fi hk;have hkle:k≤t.size:=by omega
    by_cases h9:9<t.size
    ·have hkI:(t.size:Int)-9=k:=by omega
     clear hk;have h0n:0<t.size:=by omega
     go_wp2;go_loopw [6,7] (fun s6 s7 wq=>∃ n i:Nat,s6=.int .u64 n∧s7=.int .i64 i∧k≤i∧i≤t.size∧Hid (NIn t.data.toList k i n)∧wr=wq) (fun _ s7 _=>t.size-(intOf s7).toNat)
     case atStart=>exact⟨0,k,rfl,by go_num,Fq _,hkle,lO _ _,rfl⟩
     case round =>
      obtain⟨n,i,rfl,rfl,hki,hit,hin,rfl⟩:=hrel;by_cases hi:i<t.size
      ·have hnb:=jY hin.out (by rw[HTL.out];exact HK.out) (by rw[HTL.out];exact hit);have hil:i<t.data.toList.length:=by rw[HTL.out];exact hi
       have hbyte:Hid (t.data.toList[i]=t[i]):=rfl;rcases (by omega:(t[i].toNat:Int)<48∨(57:Int)<(t[i].toNat:Int)∨(48≤(t[i].toNat:Int)∧(t[i].toNat:Int)≤57)) with hc | hc | ⟨hc,hc2⟩
       ·go_wp2
        go_ret2
        refine Or.inr ⟨?_,rfl,hb⟩;unfold cP;rw[if_neg];intro h;have:=rz hrel1.out hil (by rw[hbyte.out];exact nU hc);rw[this] at h;exact absurd h.2 (by simp)
       ·go_wp2
        go_ret2
        refine Or.inr ⟨?_,rfl,hb⟩;unfold cP;rw[if_neg];intro h;have:=rz hrel1.out hil (by rw[hbyte.out];exact nT hc);rw[this] at h;exact absurd h.2 (by simp)
       ·go_wp2;go_roundw
        case rel =>
         have hst:=od hin.out hki hil (by rw[hbyte.out];exact jT (by omega) (by omega));rw[hbyte.out] at hst;exact⟨10*n+(t[i].toNat-48),i+1,by go_num,by go_num,by omega,by omega,hst,trivial⟩
        case measure=>simp[intOf];omega
      ·have hit2:i=t.size:=by omega
       subst hit2;clear hi hit;have hend:=rj (k:=k) (n:=n) (by rw[HTL.out];exact hin.out);have hnb:=jY hin.out (by rw[HTL.out];exact HK.out) (by rw[HTL.out];exact Fq _);have HE:=Fi hend;clear hend;have hlo:=hrel1.out.few;have hsl:s.data.toList.length=s.size:=by simp
       rw[hsl] at hlo;have hbs:=hb.size;clear hsl;go_wp2_with (at_builtin;refine bF 149 Tryz.underlying149 rfl (.tmp 42) (.tmp 44) rfl w.heap.size _ lo _ n rfl rfl hown.out rfl (by omega) hbs ?_)
       intro v' w1 hown' hb';have hb1:=hb' _ _ hb (Fq _);have HO:=Fi hown';clear hown' hb';go_wp2;go_roundw;case rel=>exact⟨_,lo++[n],rfl,by simp;omega,(by unfold Hid;have hst:=wV hrel1.out (by rw[HTL.out];exact HK.out) (by intro e;have:=HTL.out;rw[e] at this;simp at this;omega) HE.out.1;rw[←HE.out.2] at hst;rw[bJ];exact hst),HO,hb1⟩
       case measure=>simp;omega
    ·have hk0:k=0:=by omega
     have HK0:=Fi hk0;clear hk hk0;have h0n:0<t.size:=by omega
     go_wp2;go_loopw [6,7] (fun s6 s7 wq=>∃ n i:Nat,s6=.int .u64 n∧s7=.int .i64 i∧k≤i∧i≤t.size∧Hid (NIn t.data.toList k i n)∧wr=wq) (fun _ s7 _=>t.size-(intOf s7).toNat)
     case atStart=>exact⟨0,k,rfl,by rw[HK0.out];rfl,Fq _,hkle,lO _ _,rfl⟩
     case round =>
      obtain⟨n,i,rfl,rfl,hki,hit,hin,rfl⟩:=hrel;by_cases hi:i<t.size
      ·have hnb:=jY hin.out (by rw[HTL.out];exact HK.out) (by rw[HTL.out];exact hit);have hil:i<t.data.toList.length:=by rw[HTL.out];exact hi
       have hbyte:Hid (t.data.toList[i]=t[i]):=rfl;rcases (by omega:(t[i].toNat:Int)<48∨(57:Int)<(t[i].toNat:Int)∨(48≤(t[i].toNat:Int)∧(t[i].toNat:Int)≤57)) with hc | hc | ⟨hc,hc2⟩
       ·go_wp2
        go_ret2
        refine Or.inr ⟨?_,rfl,hb⟩;unfold cP;rw[if_neg];intro h;have:=rz hrel1.out hil (by rw[hbyte.out];exact nU hc);rw[this] at h;exact absurd h.2 (by simp)
       ·go_wp2
        go_ret2
        refine Or.inr ⟨?_,rfl,hb⟩;unfold cP;rw[if_neg];intro h;have:=rz hrel1.out hil (by rw[hbyte.out];exact nT hc);rw[this] at h;exact absurd h.2 (by simp)
       ·go_wp2;go_roundw
        case rel =>
         have hst:=od hin.out hki hil (by rw[hbyte.out];exact jT (by omega) (by omega));rw[hbyte.out] at hst;exact⟨10*n+(t[i].toNat-48),i+1,by go_num,by go_num,by omega,by omega,hst,trivial⟩
        case measure=>simp[intOf];omega
      ·have hit2:i=t.size:=by omega
       subst hit2;clear hi hit;have hend:=rj (k:=k) (n:=n) (by rw[HTL.out];exact hin.out);have hnb:=jY hin.out (by rw[HTL.out];exact HK.out) (by rw[HTL.out];exact Fq _);have HE:=Fi hend;clear hend;have hlo:=hrel1.out.few;have hsl:s.data.toList.length=s.size:=by simp
       rw[hsl] at hlo;have hbs:=hb.size;clear hsl;go_wp2_with (at_builtin;refine bF 149 Tryz.underlying149 rfl (.tmp 42) (.tmp 44) rfl w.heap.size _ lo _ n rfl rfl hown.out rfl (by omega) hbs ?_)
       intro v' w1 hown' hb';have hb1:=hb' _ _ hb (Fq _);have HO:=Fi hown';clear hown' hb';go_wp2;go_roundw;case rel=>exact⟨_,lo++[n],rfl,by simp,(by unfold Hid;have hst:=wV hrel1.out (by rw[HTL.out];exact HK.out) (by intro e;have:=HTL.out;rw[e] at this;simp at this;omega) HE.out.1;rw[←HE.out.2] at hst;rw[HK0.out,Fv] at hst;exact hst),HO,hb1⟩
       case measure=>simp;omega
end Go.Proofs.YtbnkpcfjechfiaaGreatDoor
