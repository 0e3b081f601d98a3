/- Lemmas of this claim. -/
import Derived.Lib.PathFns
import Derived.Test.YtdlioncecgnloaaGreatDoorXPlain
import Derived.Test.YtdlioncecgnloaaGreatDoorXNat
set_option linter.all false
set_option maxRecDepth 100000
set_option maxHeartbeats 8000000
namespace Go.Proofs.YtdlioncecgnloaaGreatDoor
open Dg Dc
structure nj (s t:List UInt8) (lo:List Nat):Prop where
 ex:∃ r,s=t++r∧r.all bK=true∧aT r=Dg.val BB lo∧(t≠[]→r.length=9*lo.length)
 dig:∀ d∈lo,d<BB
 few:9*lo.length≤s.length+8
theorem yw (s:List UInt8):nj s s []:=⟨⟨[],by simp,rfl,rfl,fun _=>rfl⟩,by simp,by simp⟩
theorem uw {s t:List UInt8}{lo:List Nat}{k:Nat} (h:nj s t lo) (hk:k=t.length-9) (hne:t≠[]) (hd:(t.drop k).all bK=true) :
  nj s (t.take k) (lo++[aT (t.drop k)]):=by
 obtain⟨r,e1,e2,e3,e4⟩:=h.ex
 have hr:=e4 hne
 have hpos:=CL.2 hne
 have hlen:(t.drop k).length≤9:=by rw[CT];omega
 have hlt:aT (t.drop k)<BB:=by
  have h1:=kc _ hd
  have h2:10 ^ (t.drop k).length≤10 ^ 9:=Cy (by omega) hlen
  have h3:(10:Nat) ^ 9=BB:=by decide
  omega
 refine⟨⟨t.drop k++r,?_,?_,?_,?_⟩,?_,?_⟩
 ·rw[←CV,List.take_append_drop];exact e1
 ·rw[Dz,hd,e2];rfl
 ·rw[ef,e3,gy,hr]
  have:(10:Nat) ^ (9*lo.length)=BB ^ lo.length:=by rw[De];rfl
  rw[this,CG];omega
 ·intro hk2
  have:k≠0:=by intro e;rw[e] at hk2;simp at hk2
  simp only[Cq,CT,CK,C_]
  omega
 ·intro d hd
  rcases DI.1 hd with hd | hd
  ·exact h.dig d hd
  ·simp at hd;subst hd;exact hlt
 ·have:=h.few
  have h5:s.length=t.length+r.length:=by rw[e1];simp
  simp only[Cq,CK,C_]
  omega
def bS (s:List UInt8):Option Nat:=if s≠[]∧s.all bK=true then some (aT s) else none
theorem Bh {s:List UInt8}{lo:List Nat} (h:nj s [] lo):s.all bK=true∧lean lo=aj BB (aT s):=by
 obtain⟨r,e1,e2,e3,_⟩:=h.ex
 simp only[CH] at e1
 subst e1
 exact⟨e2,by rw[e3];exact eY aE h.dig⟩
theorem pi {s t:List UInt8}{lo:List Nat}{i:Nat} (h:nj s t lo) (hi:i<t.length) (hb:bK t[i]=false):s.all bK=false:=by
 obtain⟨r,e1,_⟩:=h.ex
 rw[e1,Dz]
 have:t.all bK=false:=by
  rw[C8]
  intro ht
  have:=Cz.1 ht t[i] (Cs hi)
  rw[hb] at this;cases this
 rw[this];rfl
structure NIn (t:List UInt8) (k i n:Nat):Prop where
 all:((t.drop k).take (i-k)).all bK=true
 eq:n=aT ((t.drop k).take (i-k))
theorem nN (t:List UInt8) (k:Nat):NIn t k k 0:=⟨by simp,by simp[aT]⟩
theorem iR {t:List UInt8}{k i n:Nat} (h:NIn t k i n) (hk:k=t.length-9) (hi:i≤t.length):n<1000000000:=by
 have h1:=kc _ h.all
 have h2:10 ^ ((t.drop k).take (i-k)).length≤10 ^ 9:=Cy (by omega) (by rw[Cw,CT];omega)
 have h3:(10:Nat) ^ 9=1000000000:=by decide
 rw[h.eq];omega
theorem qY {t:List UInt8}{k i n:Nat} (h:NIn t k i n) (hki:k≤i) (hi:i<t.length) (hd:bK t[i]=true):NIn t k (i+1) (10*n+(t[i].toNat-48)):=by
 have e:(t.drop k).take (i+1-k)=(t.drop k).take (i-k)++[t[i]]:=by
  rw[show i+1-k=i-k+1 by omega,Du (by rw[CT];omega),List.getElem_drop]
  congr 2
  simp only[show k+(i-k)=i by omega]
 refine⟨?_,?_⟩
 ·rw[e,Dz,h.all];simp[hd]
 ·rw[e,kJ,←h.eq]
theorem uu {t:List UInt8}{k n:Nat} (h:NIn t k t.length n):(t.drop k).all bK=true∧n=aT (t.drop k):=by
 have e:(t.drop k).take (t.length-k)=t.drop k:=Cn (by rw[CT];omega)
 have h1:=h.all
 have h2:=h.eq
 rw[e] at h1 h2
 exact⟨h1,h2⟩
open Go.RowKit Dg Dc
theorem qO {c:UInt8} (h:(c.toNat:Int)<48):bK c=false:=by simp[bK];omega
theorem qN {c:UInt8} (h:(57:Int)<(c.toNat:Int)):bK c=false:=by simp[bK];omega
theorem nE {c:UInt8} (h1:¬ (c.toNat:Int)<48) (h2:¬ (57:Int)<(c.toNat:Int)):bK c=true:=by simp[bK];omega
theorem gI (s:ByteArray) (k:Nat):(s.extract 0 k).data.toList=s.data.toList.take k:=by simp
theorem i_ (s:ByteArray):s.toList=s.data.toList:=by
 exact ByteArray.toList_eq s
def pV (s:ByteArray) (w:World) (e:Ending) (w':World):Prop :=
 (∃ n v,bS s.data.toList=some n∧e=.returned (.tuple #[v,.bool true])∧dH w' w.heap.size v (aj BB n)∧Below w.heap.size w w') ∨
 (bS s.data.toList=none∧e=.returned (.tuple #[.slice none 0 0,.bool false])∧Below w.heap.size w w')
theorem dH.lean {w:World}{base:Nat}{p:Option Addr}{N cap:Nat}{l:List Nat} (h:dH w base (.slice p N cap) l):dH w base (.slice p (Dg.lean l).length cap) (Dg.lean l):=by
 obtain⟨h1,h2⟩:=h
 refine⟨by rw[kW,DQ],?_⟩
 have hle:=cW l
 rcases h2 with ⟨h',h0⟩ | ⟨g',cap',cur,e,hb,hg,hn,hm,hs,ht⟩
 ·simp at h'
  obtain⟨rfl,_,rfl⟩:=h'
  refine Or.inl ⟨by rw[show (Dg.lean l).length=0 by omega],by omega⟩
 ·simp at e
  obtain⟨rfl,_,rfl⟩:=e
  refine Or.inr ⟨g',cap,cur,rfl,hb,hg,Cr hle hn,hm,hs,?_⟩
  rw[DQ] at ht ⊢
  have:List.take (Dg.lean l).length (List.take l.length cur.toList)=eP (Dg.lean l):=by rw[ht,←og,kp]
  rw[List.take_take,CP hle] at this
  exact this
theorem qV (s:ByteArray) (w:World) (hs:s.size<100000) :
  Calls Tryz.prog 232 #[.string s] w (pV s w):=by
 by_cases hne:s.data.toList=[]
 ·have hne':s.toList.isEmpty=true:=by rw[i_,hne];rfl
  have HN:=BZ hne
  clear hne
  go_enter Tryz.func232,Tryz.ntmps232
  go_wp2
  go_ret2
  exact Or.inr ⟨by simp[bS,HN.out],rfl,Below.refl _ _⟩
 ·have hne':s.toList.isEmpty=false:=by rw[i_];exact List.isEmpty_eq_false_iff.2 hne
  have HN:=BZ hne
  clear hne
  go_enter Tryz.func232,Tryz.ntmps232
  go_wp2
  go_loopw [0,4] (fun s0 s4 wr=>∃ (t:ByteArray) (lo:List Nat),s0=.string t∧t.size≤s.size∧Hid (nj s.data.toList t.data.toList lo)∧Hid (dH wr w.heap.size s4 lo)∧Below w.heap.size w wr) (fun s0 _ _=>match s0 with | .string t=>t.size | _=>0)
  case atStart=>exact⟨s,[],rfl,Cd _,yw _,World.ownsRow_nil _ _ _ _,Below.refl _ _⟩
  case round =>
   obtain⟨t,lo,rfl,hts,hrel1,hown,hb⟩:=hrel
   by_cases h0:t.size=0
   ·have ht:t.data.toList=[]:=by apply Dj;simpa using h0
    have hend:=hrel1.out
    rw[ht] at hend
    have HE:=BZ (Bh hend)
    have ho:=hown.out
    have hu:=ho.isU
    obtain⟨p,cap,rfl,_,_,_⟩:=hu
    clear hend
    go_wp2_with (go_at_call 250;refine (fY _ _ _ lo _ (dH.isU hown.out)).mono ?_;rintro e w' ⟨rfl,rfl⟩)
    go_ret2
    refine Or.inl ⟨aT s.data.toList,_,?_,rfl,?_,hb⟩
    ·unfold bS;rw[if_pos ⟨HN.out,HE.out.1⟩]
    ·rw[←HE.out.2];exact dH.lean hown.out
   ·have htl:t.data.toList.length=t.size:=by simp
    have HTL:=BZ htl
    clear htl
    obtain⟨k,hk⟩:∃ k:Nat,k=t.size-9:=⟨_,rfl⟩
    have HK:=BZ hk
    have hkle:k≤t.size:=by omega
    by_cases h9:9<t.size
    ·have hkI:(t.size:Int)-9=k:=by omega
     clear hk
     have h0n:0<t.size:=by omega
     go_wp2
     go_loopw [6,7] (fun s6 s7 wq=>∃ n i:Nat,s6=.int .u64 n∧s7=.int .i64 i∧k≤i∧i≤t.size∧Hid (NIn t.data.toList k i n)∧wr=wq) (fun _ s7 _=>t.size-(intOf s7).toNat)
     case atStart=>exact⟨0,k,rfl,by go_num,Cd _,hkle,nN _ _,rfl⟩
     case round =>
      obtain⟨n,i,rfl,rfl,hki,hit,hin,rfl⟩:=hrel
      by_cases hi:i<t.size
      ·have hnb:=iR hin.out (by rw[HTL.out];exact HK.out) (by rw[HTL.out];exact hit)
       have hil:i<t.data.toList.length:=by rw[HTL.out];exact hi
       have hbyte:Hid (t.data.toList[i]=t[i]):=rfl
       rcases (by omega:(t[i].toNat:Int)<48∨(57:Int)<(t[i].toNat:Int)∨(48≤(t[i].toNat:Int)∧(t[i].toNat:Int)≤57)) with hc | hc | ⟨hc,hc2⟩
       ·go_wp2
        go_ret2
        refine Or.inr ⟨?_,rfl,hb⟩
        unfold bS;rw[if_neg]
        intro h
        have:=pi hrel1.out hil (by rw[hbyte.out];exact qO hc)
        rw[this] at h;exact absurd h.2 (by simp)
       ·go_wp2
        go_ret2
        refine Or.inr ⟨?_,rfl,hb⟩
        unfold bS;rw[if_neg]
        intro h
        have:=pi hrel1.out hil (by rw[hbyte.out];exact qN hc)
        rw[this] at h;exact absurd h.2 (by simp)
       ·go_wp2
        go_roundw
        case rel =>
         have hst:=qY hin.out hki hil (by rw[hbyte.out];exact nE (by omega) (by omega))
         rw[hbyte.out] at hst
         exact⟨10*n+(t[i].toNat-48),i+1,by go_num,by go_num,by omega,by omega,hst,trivial⟩
        case measure=>simp[intOf];omega
      ·have hit2:i=t.size:=by omega
       subst hit2
       clear hi hit
       have hend:=uu (k:=k) (n:=n) (by rw[HTL.out];exact hin.out)
       have hnb:=iR hin.out (by rw[HTL.out];exact HK.out) (by rw[HTL.out];exact Cd _)
       have HE:=BZ hend
       clear hend
       have hlo:=hrel1.out.few
       have hsl:s.data.toList.length=s.size:=by simp
       rw[hsl] at hlo
       have hbs:=hb.size
       clear hsl
       go_wp2_with (at_builtin;refine a8 87 Tryz.underlying87 rfl (.tmp 42) (.tmp 44) rfl w.heap.size _ lo _ n rfl rfl hown.out rfl (by omega) hbs ?_)
       intro v' w1 hown' hb'
       have hb1:=hb' _ _ hb (Cd _)
       have HO:=BZ hown'
       clear hown' hb'
       go_wp2
       go_roundw
       case rel=>exact⟨_,lo++[n],rfl,by simp;omega,(by unfold Hid;have hst:=uw hrel1.out (by rw[HTL.out];exact HK.out) (by intro e;have:=HTL.out;rw[e] at this;simp at this;omega) HE.out.1;rw[←HE.out.2] at hst;rw[gI];exact hst),HO,hb1⟩
       case measure=>simp;omega
    ·have hk0:k=0:=by omega
     have HK0:=BZ hk0
     clear hk hk0
     have h0n:0<t.size:=by omega
     go_wp2
     go_loopw [6,7] (fun s6 s7 wq=>∃ n i:Nat,s6=.int .u64 n∧s7=.int .i64 i∧k≤i∧i≤t.size∧Hid (NIn t.data.toList k i n)∧wr=wq) (fun _ s7 _=>t.size-(intOf s7).toNat)
     case atStart=>exact⟨0,k,rfl,by rw[HK0.out];rfl,Cd _,hkle,nN _ _,rfl⟩
     case round =>
      obtain⟨n,i,rfl,rfl,hki,hit,hin,rfl⟩:=hrel
      by_cases hi:i<t.size
      ·have hnb:=iR hin.out (by rw[HTL.out];exact HK.out) (by rw[HTL.out];exact hit)
       have hil:i<t.data.toList.length:=by rw[HTL.out];exact hi
       have hbyte:Hid (t.data.toList[i]=t[i]):=rfl
       rcases (by omega:(t[i].toNat:Int)<48∨(57:Int)<(t[i].toNat:Int)∨(48≤(t[i].toNat:Int)∧(t[i].toNat:Int)≤57)) with hc | hc | ⟨hc,hc2⟩
       ·go_wp2
        go_ret2
        refine Or.inr ⟨?_,rfl,hb⟩
        unfold bS;rw[if_neg]
        intro h
        have:=pi hrel1.out hil (by rw[hbyte.out];exact qO hc)
        rw[this] at h;exact absurd h.2 (by simp)
       ·go_wp2
        go_ret2
        refine Or.inr ⟨?_,rfl,hb⟩
        unfold bS;rw[if_neg]
        intro h
        have:=pi hrel1.out hil (by rw[hbyte.out];exact qN hc)
        rw[this] at h;exact absurd h.2 (by simp)
       ·go_wp2
        go_roundw
        case rel =>
         have hst:=qY hin.out hki hil (by rw[hbyte.out];exact nE (by omega) (by omega))
         rw[hbyte.out] at hst
         exact⟨10*n+(t[i].toNat-48),i+1,by go_num,by go_num,by omega,by omega,hst,trivial⟩
        case measure=>simp[intOf];omega
      ·have hit2:i=t.size:=by omega
       subst hit2
       clear hi hit
       have hend:=uu (k:=k) (n:=n) (by rw[HTL.out];exact hin.out)
       have hnb:=iR hin.out (by rw[HTL.out];exact HK.out) (by rw[HTL.out];exact Cd _)
       have HE:=BZ hend
       clear hend
       have hlo:=hrel1.out.few
       have hsl:s.data.toList.length=s.size:=by simp
       rw[hsl] at hlo
       have hbs:=hb.size
       clear hsl
       go_wp2_with (at_builtin;refine a8 87 Tryz.underlying87 rfl (.tmp 42) (.tmp 44) rfl w.heap.size _ lo _ n rfl rfl hown.out rfl (by omega) hbs ?_)
       intro v' w1 hown' hb'
       have hb1:=hb' _ _ hb (Cd _)
       have HO:=BZ hown'
       clear hown' hb'
       go_wp2
       go_roundw
       case rel=>exact⟨_,lo++[n],rfl,by simp,(by unfold Hid;have hst:=uw hrel1.out (by rw[HTL.out];exact HK.out) (by intro e;have:=HTL.out;rw[e] at this;simp at this;omega) HE.out.1;rw[←HE.out.2] at hst;rw[HK0.out,Ch] at hst;exact hst),HO,hb1⟩
       case measure=>simp;omega
end Go.Proofs.YtdlioncecgnloaaGreatDoor
