/- L -/
import Derived.Lib.PathFns
import Derived.Test.YtlhpcoelfhjomaaGreatDoorQPlain
import Derived.Test.YtlhpcoelfhjomaaGreatDoorQNat
set_option linter.all false
set_option maxRecDepth 100000
set_option maxHeartbeats 8000000
namespace Go.Proofs.YtlhpcoelfhjomaaGreatDoor
open Dg Dc
structure rS (s t:List UInt8) (lo:List Nat):Prop where
 ex:∃ r,s=t++r/\r.all bj=true/\aX r=Dg.val BB lo/\(t≠[]->r.length=9*lo.length)
 dig:∀ d∈lo,d<BB
 few:9*lo.length<=s.length+8
theorem DL (s:List UInt8):rS s s []:=⟨⟨[],by simp,rfl,rfl,fun _=>rfl⟩,by simp,by simp⟩
theorem zY {s t:List UInt8}{lo:List Nat}{k:Nat} (h:rS s t lo) (hk:k=t.length-9) (hne:t≠[]) (hd:(t.drop k).all bj=true) :
  rS s (t.take k) (lo++[aX (t.drop k)]):=by
 obtain⟨r,e1,e2,e3,e4⟩:=h.ex;have hr:=e4 hne;have hpos:=IU.2 hne;have hlen:(t.drop k).length<=9:=by rw[IP];omega
 have hlt:aX (t.drop k)<BB:=by
  have h1:=gZ _ hd;have h2:10 ^ (t.drop k).length<=10 ^ 9:=IQ (by omega) hlen;have h3:(10:Nat) ^ 9=BB:=by decide
  omega
 refine⟨⟨t.drop k++r,?_,?_,?_,?_⟩,?_,?_⟩
 ·rw[<-I_,Lf];exact e1
 ·rw[JW,hd,e2];rfl
 ·rw[eW,e3,eI,hr];have:(10:Nat) ^ (9*lo.length)=BB ^ lo.length:=by rw[JP];rfl
  rw[this,IM];omega
 ·intro hk2;have:k≠0:=by intro e;rw[e] at hk2;simp at hk2
  simp only[IG,IP,IT,Jn];omega
 ·intro d hd;rcases Jo.1 hd with hd | hd
  ·exact h.dig d hd
  ·simp at hd;subst hd;exact hlt
 ·have:=h.few;have h5:s.length=t.length+r.length:=by rw[e1];simp
  simp only[IG,IT,Jn];omega
def dr (s:List UInt8):Option Nat:=if s≠[]/\s.all bj=true then some (aX s) else none
theorem G4 {s:List UInt8}{lo:List Nat} (h:rS s [] lo):s.all bj=true/\lean lo=aq BB (aX s):=by
 obtain⟨r,e1,e2,e3,_⟩:=h.ex;simp only[I8] at e1;subst e1;exact⟨e2,by rw[e3];exact c_ aT h.dig⟩
theorem t8 {s t:List UInt8}{lo:List Nat}{i:Nat} (h:rS s t lo) (hi:i<t.length) (hb:bj t[i]=false):s.all bj=false:=by
 obtain⟨r,e1,_⟩:=h.ex;rw[e1,JW]
 have:t.all bj=false:=by
  rw[Ji];intro ht;have:=I5.1 ht t[i] (IS hi);rw[hb] at this;cases this
 rw[this];rfl
structure NIn (t:List UInt8) (k i n:Nat):Prop where
 all:((t.drop k).take (i-k)).all bj=true
 eq:n=aX ((t.drop k).take (i-k))
theorem nz (t:List UInt8) (k:Nat):NIn t k k 0:=⟨by simp,by simp[aX]⟩
theorem k9 {t:List UInt8}{k i n:Nat} (h:NIn t k i n) (hk:k=t.length-9) (hi:i<=t.length):n<1000000000:=by
 have h1:=gZ _ h.all;have h2:10 ^ ((t.drop k).take (i-k)).length<=10 ^ 9:=IQ (by omega) (by rw[IY,IP];omega);have h3:(10:Nat) ^ 9=1000000000:=by decide
 rw[h.eq];omega
theorem qv {t:List UInt8}{k i n:Nat} (h:NIn t k i n) (hki:k<=i) (hi:i<t.length) (hd:bj t[i]=true):NIn t k (i+1) (10*n+(t[i].toNat-48)):=by
 have e:(t.drop k).take (i+1-k)=(t.drop k).take (i-k)++[t[i]]:=by
  rw[show i+1-k=i-k+1 by omega,J0 (by rw[IP];omega),List.getElem_drop];congr 2;simp only[show k+(i-k)=i by omega]
 refine⟨?_,?_⟩
 ·rw[e,JW,h.all];simp[hd]
 ·rw[e,nU,<-h.eq]
theorem tZ {t:List UInt8}{k n:Nat} (h:NIn t k t.length n):(t.drop k).all bj=true/\n=aX (t.drop k):=by
 have e:(t.drop k).take (t.length-k)=t.drop k:=IE (by rw[IP];omega);have h1:=h.all;have h2:=h.eq;rw[e] at h1 h2;exact⟨h1,h2⟩
open Go.RowKit Dg Dc
theorem p_ {c:UInt8} (h:(c.toNat:Int)<48):bj c=false:=by simp[bj];omega
theorem pZ {c:UInt8} (h:(57:Int)<(c.toNat:Int)):bj c=false:=by simp[bj];omega
theorem kV {c:UInt8} (h1:¬ (c.toNat:Int)<48) (h2:¬ (57:Int)<(c.toNat:Int)):bj c=true:=by simp[bj];omega
theorem ci (s:ByteArray) (k:Nat):(s.extract 0 k).data.toList=s.data.toList.take k:=by simp
theorem lq (s:ByteArray):s.toList=s.data.toList:=by
 exact ByteArray.toList_eq s
def uL (s:ByteArray) (w:World) (e:Ending) (w':World):Prop :=
 (∃ n v,dr s.data.toList=some n/\e=.returned (.tuple #[v,.bool true])/\fv w' w.heap.size v (aq BB n)/\Below w.heap.size w w') \/
 (dr s.data.toList=none/\e=.returned (.tuple #[.slice none 0 0,.bool false])/\Below w.heap.size w w')
theorem fv.lean {w:World}{base:Nat}{p:Option Addr}{N cap:Nat}{l:List Nat} (h:fv w base (.slice p N cap) l):fv w base (.slice p (Dg.lean l).length cap) (Dg.lean l):=by
 obtain⟨h1,h2⟩:=h;refine⟨by rw[oC,JO],?_⟩;have hle:=bO l;rcases h2 with ⟨h',h0⟩ | ⟨g',cap',cur,e,hb,hg,hn,hm,hs,ht⟩
 ·simp at h';obtain⟨rfl,_,rfl⟩:=h';refine Or.inl ⟨by rw[show (Dg.lean l).length=0 by omega],by omega⟩
 ·simp at e;obtain⟨rfl,_,rfl⟩:=e;refine Or.inr ⟨g',cap,cur,rfl,hb,hg,IB hle hn,hm,hs,?_⟩;rw[JO] at ht |-;have:List.take (Dg.lean l).length (List.take l.length cur.toList)=gO (Dg.lean l):=by rw[ht,<-tn,kX]
  rw[Lr,Jp hle] at this;exact this
theorem wh (s:ByteArray) (w:World) (hs:s.size<100000) :
  Calls Tryz.prog 186 #[.string s] w (uL s w):=by
 by_cases hne:s.data.toList=[]
 ·have hne':s.toList.isEmpty=true:=by rw[lq,hne];rfl
  have HN:=Ip hne;clear hne;go_enter Tryz.func186,Tryz.ntmps186;go_wp2
  go_ret2
  exact Or.inr ⟨by simp[dr,HN.out],rfl,Below.refl _ _⟩
 ·have hne':s.toList.isEmpty=false:=by rw[lq];exact List.isEmpty_eq_false_iff.2 hne
  have HN:=Ip hne;clear hne;go_enter Tryz.func186,Tryz.ntmps186;go_wp2;go_loopw [0,4] (fun s0 s4 wr=>∃ (t:ByteArray) (lo:List Nat),s0=.string t/\t.size<=s.size/\Hid (rS s.data.toList t.data.toList lo)/\Hid (fv wr w.heap.size s4 lo)/\Below w.heap.size w wr) (fun s0 _ _=>match s0 with | .string t=>t.size | _=>0)
  case atStart=>exact⟨s,[],rfl,Iw _,DL _,World.ownsRow_nil _ _ _ _,Below.refl _ _⟩
  case round =>
   obtain⟨t,lo,rfl,hts,hrel1,hown,hb⟩:=hrel;by_cases h0:t.size=0
   ·have ht:t.data.toList=[]:=by apply Jc;simpa using h0
    have hend:=hrel1.out;rw[ht] at hend;have HE:=Ip (G4 hend);have ho:=hown.out;have hu:=ho.isU;obtain⟨p,cap,rfl,_,_,_⟩:=hu;clear hend;go_wp2_with (go_at_call 161;refine (jg _ _ _ lo _ (fv.isU hown.out)).mono ?_;rintro e w' ⟨rfl,rfl⟩)
    go_ret2
    refine Or.inl ⟨aX s.data.toList,_,?_,rfl,?_,hb⟩
    ·unfold dr;rw[if_pos ⟨HN.out,HE.out.1⟩]
    ·rw[<-HE.out.2];exact fv.lean hown.out
   ·have htl:t.data.toList.length=t.size:=by simp
    have HTL:=Ip htl;clear htl;obtain⟨k,hk⟩:∃ k:Nat,k=t.size-9:=⟨_,rfl⟩;have HK:=Ip hk;have hkle:k<=t.size:=by omega
    by_cases h9:9<t.size
    ·have hkI:(t.size:Int)-9=k:=by omega
     clear hk;have h0n:0<t.size:=by omega
     go_wp2;go_loopw [6,7] (fun s6 s7 wq=>∃ n i:Nat,s6=.int .u64 n/\s7=.int .i64 i/\k<=i/\i<=t.size/\Hid (NIn t.data.toList k i n)/\wr=wq) (fun _ s7 _=>t.size-(intOf s7).toNat)
     case atStart=>exact⟨0,k,rfl,by go_num,Iw _,hkle,nz _ _,rfl⟩
     case round =>
      obtain⟨n,i,rfl,rfl,hki,hit,hin,rfl⟩:=hrel;by_cases hi:i<t.size
      ·have hnb:=k9 hin.out (by rw[HTL.out];exact HK.out) (by rw[HTL.out];exact hit);have hil:i<t.data.toList.length:=by rw[HTL.out];exact hi
       have hbyte:Hid (t.data.toList[i]=t[i]):=rfl;rcases (by omega:(t[i].toNat:Int)<48\/(57:Int)<(t[i].toNat:Int)\/(48<=(t[i].toNat:Int)/\(t[i].toNat:Int)<=57)) with hc | hc | ⟨hc,hc2⟩
       ·go_wp2
        go_ret2
        refine Or.inr ⟨?_,rfl,hb⟩;unfold dr;rw[if_neg];intro h;have:=t8 hrel1.out hil (by rw[hbyte.out];exact p_ hc);rw[this] at h;exact absurd h.2 (by simp)
       ·go_wp2
        go_ret2
        refine Or.inr ⟨?_,rfl,hb⟩;unfold dr;rw[if_neg];intro h;have:=t8 hrel1.out hil (by rw[hbyte.out];exact pZ hc);rw[this] at h;exact absurd h.2 (by simp)
       ·go_wp2;go_roundw
        case rel =>
         have hst:=qv hin.out hki hil (by rw[hbyte.out];exact kV (by omega) (by omega));rw[hbyte.out] at hst;exact⟨10*n+(t[i].toNat-48),i+1,by go_num,by go_num,by omega,by omega,hst,trivial⟩
        case measure=>simp[intOf];omega
      ·have hit2:i=t.size:=by omega
       subst hit2;clear hi hit;have hend:=tZ (k:=k) (n:=n) (by rw[HTL.out];exact hin.out);have hnb:=k9 hin.out (by rw[HTL.out];exact HK.out) (by rw[HTL.out];exact Iw _);have HE:=Ip hend;clear hend;have hlo:=hrel1.out.few;have hsl:s.data.toList.length=s.size:=by simp
       rw[hsl] at hlo;have hbs:=hb.size;clear hsl;go_wp2_with (at_builtin;refine bS 87 Tryz.underlying87 rfl (.tmp 42) (.tmp 44) rfl w.heap.size _ lo _ n rfl rfl hown.out rfl (by omega) hbs ?_)
       intro v' w1 hown' hb';have hb1:=hb' _ _ hb (Iw _);have HO:=Ip hown';clear hown' hb';go_wp2;go_roundw;case rel=>exact⟨_,lo++[n],rfl,by simp;omega,(by unfold Hid;have hst:=zY hrel1.out (by rw[HTL.out];exact HK.out) (by intro e;have:=HTL.out;rw[e] at this;simp at this;omega) HE.out.1;rw[<-HE.out.2] at hst;rw[ci];exact hst),HO,hb1⟩
       case measure=>simp;omega
    ·have hk0:k=0:=by omega
     have HK0:=Ip hk0;clear hk hk0;have h0n:0<t.size:=by omega
     go_wp2;go_loopw [6,7] (fun s6 s7 wq=>∃ n i:Nat,s6=.int .u64 n/\s7=.int .i64 i/\k<=i/\i<=t.size/\Hid (NIn t.data.toList k i n)/\wr=wq) (fun _ s7 _=>t.size-(intOf s7).toNat)
     case atStart=>exact⟨0,k,rfl,by rw[HK0.out];rfl,Iw _,hkle,nz _ _,rfl⟩
     case round =>
      obtain⟨n,i,rfl,rfl,hki,hit,hin,rfl⟩:=hrel;by_cases hi:i<t.size
      ·have hnb:=k9 hin.out (by rw[HTL.out];exact HK.out) (by rw[HTL.out];exact hit);have hil:i<t.data.toList.length:=by rw[HTL.out];exact hi
       have hbyte:Hid (t.data.toList[i]=t[i]):=rfl;rcases (by omega:(t[i].toNat:Int)<48\/(57:Int)<(t[i].toNat:Int)\/(48<=(t[i].toNat:Int)/\(t[i].toNat:Int)<=57)) with hc | hc | ⟨hc,hc2⟩
       ·go_wp2
        go_ret2
        refine Or.inr ⟨?_,rfl,hb⟩;unfold dr;rw[if_neg];intro h;have:=t8 hrel1.out hil (by rw[hbyte.out];exact p_ hc);rw[this] at h;exact absurd h.2 (by simp)
       ·go_wp2
        go_ret2
        refine Or.inr ⟨?_,rfl,hb⟩;unfold dr;rw[if_neg];intro h;have:=t8 hrel1.out hil (by rw[hbyte.out];exact pZ hc);rw[this] at h;exact absurd h.2 (by simp)
       ·go_wp2;go_roundw
        case rel =>
         have hst:=qv hin.out hki hil (by rw[hbyte.out];exact kV (by omega) (by omega));rw[hbyte.out] at hst;exact⟨10*n+(t[i].toNat-48),i+1,by go_num,by go_num,by omega,by omega,hst,trivial⟩
        case measure=>simp[intOf];omega
      ·have hit2:i=t.size:=by omega
       subst hit2;clear hi hit;have hend:=tZ (k:=k) (n:=n) (by rw[HTL.out];exact hin.out);have hnb:=k9 hin.out (by rw[HTL.out];exact HK.out) (by rw[HTL.out];exact Iw _);have HE:=Ip hend;clear hend;have hlo:=hrel1.out.few;have hsl:s.data.toList.length=s.size:=by simp
       rw[hsl] at hlo;have hbs:=hb.size;clear hsl;go_wp2_with (at_builtin;refine bS 87 Tryz.underlying87 rfl (.tmp 42) (.tmp 44) rfl w.heap.size _ lo _ n rfl rfl hown.out rfl (by omega) hbs ?_)
       intro v' w1 hown' hb';have hb1:=hb' _ _ hb (Iw _);have HO:=Ip hown';clear hown' hb';go_wp2;go_roundw;case rel=>exact⟨_,lo++[n],rfl,by simp,(by unfold Hid;have hst:=zY hrel1.out (by rw[HTL.out];exact HK.out) (by intro e;have:=HTL.out;rw[e] at this;simp at this;omega) HE.out.1;rw[<-HE.out.2] at hst;rw[HK0.out,IC] at hst;exact hst),HO,hb1⟩
       case measure=>simp;omega
end Go.Proofs.YtlhpcoelfhjomaaGreatDoor
