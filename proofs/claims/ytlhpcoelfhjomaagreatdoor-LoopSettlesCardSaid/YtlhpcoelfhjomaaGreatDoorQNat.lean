/- L -/
import Derived.Test.YtlhpcoelfhjomaaGreatDoorQMach
import Derived.Test.YtlhpcoelfhjomaaGreatDoorQPlain
set_option linter.all false
set_option maxRecDepth 100000
set_option maxHeartbeats 8000000
namespace Go.Proofs.YtlhpcoelfhjomaaGreatDoor
open Go.RowKit Dg
def BB:Nat:=1000000000
abbrev CB (l:List Nat):Prop:=Dg.Can BB l
theorem aT:2<=BB:=by decide
def lG (n m:Nat) (l:List Nat):Prop:=l++aq BB m=aq BB n
theorem v_ {n m:Nat}{l:List Nat} (h:lG n m l) (hm:0<m):lG n (m / 1000000000) (l++[m % 1000000000]):=by
 unfold lG at *
 rw[digs_pos aT (by omega)] at h;rw[<-h];simp[BB]
theorem rL {n m:Nat}{l:List Nat} (h:lG n m l) (hn:n<18446744073709551616):l.length<=3:=by
 have h1:=aZ aT (n:=n) (k:=3) (by simp only[BB];omega);unfold lG at h;rw[<-h,IG] at h1;omega
theorem kw (n:Nat) (w:World) (hn:n<18446744073709551616) :
  Calls Tryz.prog 104 #[.int .u64 n] w fun e w'=>∃ v,e=.returned v/\fv w' w.heap.size v (aq BB n)/\Below w.heap.size w w':=by
 go_enter Tryz.func104,Tryz.ntmps104;go_wp2;go_loopw [0,3] (fun s0 s3 wr=>∃ (m:Nat) (l:List Nat),m<18446744073709551616/\s0=.int .u64 m/\fv wr w.heap.size s3 l/\Below w.heap.size w wr/\lG n m l) (fun s0 _ _=>(intOf s0).toNat)
 case atStart=>exact⟨n,[],hn,rfl,World.ownsRow_nil _ _ _ _,Below.refl _ _,rfl⟩
 case round =>
  obtain⟨m,l,hm,rfl,hown,hb,hr⟩:=hrel;have hsz:=hb.size;have hll:=rL hr hn;go_wp2_with (at_builtin;refine bS 87 Tryz.underlying87 rfl (.tmp 8) (.tmp 11) rfl w.heap.size _ l _ (m % 1000000000) (by omega) rfl hown rfl ?c1 hsz ?_)
  case c1=>omega
  ·intro v' w1 hown' hb';have hlt:0<m:=by assumption
   have hb1:=hb' _ _ hb (Iw _);have hr1:=v_ hr hlt;clear hown hb hb' hr;go_wp2;go_roundw;case rel=>exact⟨m / 1000000000,l++[m % 1000000000],by omega,by go_num,hown',hb1,hr1⟩
   case measure=>simp[intOf];omega
  ·go_wp2;go_ret;have h0:m=0:=by omega
   subst h0;refine⟨_,rfl,?_,hb⟩;unfold lG at hr;rw[cz,Ju] at hr;rw[<-hr];exact hown
theorem kt {l:List Nat}{k:Nat} (h0:0<k) (hk:k<=l.length) (hz:nth l (k-1)=0):lean (l.take (k-1))=lean (l.take k):=by
 have e:l.take k=l.take (k-1)++[0]:=by
  have:=J0 (l:=l) (i:=k-1) (by omega);rw[show k-1+1=k by omega] at this;rw[this];rw[eF l _ (by omega)] at hz;rw[hz]
 rw[e,qg]
theorem kr {l:List Nat}{k:Nat} (h0:0<k) (hk:k<=l.length) (hz:nth l (k-1)≠0):lean (l.take k)=l.take k:=by
 have e:l.take k=l.take (k-1)++[nth l (k-1)]:=by
  have:=J0 (l:=l) (i:=k-1) (by omega);rw[show k-1+1=k by omega] at this;rw[this,eF l _ (by omega)]
 rw[e];exact Bf _ _ hz
/-- lean: the same slice, cut behind its last digit that is not 0. -/
theorem jg (p:Option Addr) (N cap:Nat) (l:List Nat) (w:World) (hv:IsU w (.slice p N cap) l) :
  Calls Tryz.prog 161 #[.slice p N cap] w fun e w'=>e=.returned (.slice p (lean l).length cap)/\w=w':=by
 obtain⟨p',cap',he,hlc,hcm,hcell⟩:=hv;obtain⟨rfl,rfl,rfl⟩:p'=p/\l.length=N/\cap'=cap:=by simp at he;exact⟨he.1.symm,he.2.1.symm,he.2.2.symm⟩
 clear he;unfold maxLen at hcm;go_enter Tryz.func161,Tryz.ntmps161;go_wp2
 go_loop [0] (fun s0=>∃ k:Nat,k<=l.length/\s0=.slice p' k cap'/\Hid (lean (l.take k)=lean l)) (fun s0=>match s0 with | .slice _ n _=>n | _=>0)
 case atStart=>exact⟨l.length,Iw _,rfl,by unfold Hid;rw[IZ]⟩
 case round =>
  obtain⟨k,hk,rfl,hl⟩:=hrel;by_cases h0:k=0
  ·subst h0;go_wp2;go_ret;refine⟨?_,rfl⟩;rw[<-hl.out];simp[lean]
  ·obtain⟨b,o,rfl,_,hc⟩:=hcell (by omega);have hc1:=hc (k-1) (by omega);clear hc hcell;have h0':0<k:=by omega
   by_cases hz:nth l (k-1)=0
   ·have hz':((nth l (k-1):Int) == 0)=true:=by simp[hz]
    have H:=Ip hz;clear hz;go_wp2
    go_round
    case rel=>exact⟨k-1,by omega,by go_num,by unfold Hid;rw[kt h0' hk H.out];exact hl⟩
    case measure=>simp;omega
   ·have hz':((nth l (k-1):Int) == 0)=false:=by simp;omega
    go_wp2;go_ret;have:=hl.out;rw[kr h0' hk hz] at this;refine⟨?_,rfl⟩;rw[<-this,IY,Jp hk];rfl
def dC (m n:Nat):Int:=if m<n then -1 else if m=n then 0 else 1
theorem CF {l m:List Nat} (hl:CB l) (hm:CB m) (h:l.length<m.length):dC (val BB l) (val BB m)=-1:=by
 have:=cQ aT hl hm h;simp[dC,this]
theorem AN {l m:List Nat} (hl:CB l) (hm:CB m) (h:m.length<l.length):dC (val BB l) (val BB m)=1:=by
 have:=cQ aT hm hl h;simp only[dC];rw[if_neg (by omega),if_neg (by omega)]
theorem g_ {l:List Nat}{k:Nat} (h0:0<k) (hk:k<=l.length):l.drop (k-1)=nth l (k-1) :: l.drop k:=by
 rw[eF l _ (by omega)];have:=Jr (l:=l) (i:=k-1) (by omega);rw[this,show k-1+1=k by omega]
theorem sf {l m:List Nat}{k:Nat} (h0:0<k) (hk:k<=l.length) (hk2:k<=m.length) (hd:Hid (l.drop k=m.drop k))
  (ht:nth l (k-1)=nth m (k-1)):Hid (l.drop (k-1)=m.drop (k-1)):=by
 unfold Hid;rw[g_ h0 hk,g_ h0 hk2,ht,hd.out]
theorem Fe {l m:List Nat}{k:Nat} (hl:CB l) (hlen:l.length=m.length) (h0:0<k) (hk:k<=l.length) (hd:l.drop k=m.drop k)
  (ht:nth l (k-1)<nth m (k-1)):dC (val BB l) (val BB m)=-1:=by
 rw[eF l _ (by omega),eF m _ (by omega)] at ht;have:=gw (b:=BB) hl.1 hlen (k-1) (by omega) (by rw[show k-1+1=k by omega];exact hd) ht;simp[dC,this]
theorem CH {l m:List Nat}{k:Nat} (hm:CB m) (hlen:l.length=m.length) (h0:0<k) (hk:k<=l.length) (hd:l.drop k=m.drop k)
  (ht:nth m (k-1)<nth l (k-1)):dC (val BB l) (val BB m)=1:=by
 rw[eF l _ (by omega),eF m _ (by omega)] at ht;have:=gw (b:=BB) hm.1 hlen.symm (k-1) (by omega) (by rw[show k-1+1=k by omega];exact hd.symm) ht;simp only[dC];rw[if_neg (by omega),if_neg (by omega)]
theorem iQ (va vb:Value) (l m:List Nat) (w:World) (ha:IsU w va l) (hb:IsU w vb m) (hl:CB l) (hm:CB m) :
  Calls Tryz.prog 158 #[va,vb] w fun e w'=>e=.returned (.int .i64 (dC (val BB l) (val BB m)))/\∃ n,w'=w.drewN n:=by
 obtain⟨p,cap,rfl,hlc,hcm,hcell⟩:=ha;obtain⟨p',cap',rfl,hlc',hcm',hcell'⟩:=hb;unfold maxLen at hcm hcm';by_cases hlen:l.length=m.length
 ·have hne:(((l.length:Nat):Int) != ((m.length:Nat):Int))=false:=by simp[hlen]
  have HL:=Ip hlen;clear hlen;go_enter Tryz.func158,Tryz.ntmps158;go_wp2;go_loopw [5] (fun s5 wr=>∃ k n:Nat,k<=l.length/\s5=.int .i64 ((k:Int)-1)/\Hid (l.drop k=m.drop k)/\wr=w.drewN n) (fun s5 _=>(intOf s5+1).toNat)
  case atStart=>exact⟨l.length,0,Iw _,rfl,by unfold Hid;rw[Jt (Iw _),Jt (by rw[HL.out];omega)],rfl⟩
  case round =>
   obtain⟨k,n,hk,rfl,hd,rfl⟩:=hrel;by_cases h0:k=0
   ·subst h0;go_wp2;go_ret;refine⟨?_,_,rfl⟩;have:=hd.out;simp only[IA] at this;subst this;simp[dC]
   ·have hk2:k<=m.length:=by have:=HL.out;omega
    obtain⟨b,o,rfl,_,hc⟩:=hcell (by omega);obtain⟨b',o',rfl,_,hc'⟩:=hcell' (by omega);have hc1:=hc (k-1) (by omega);have hc1':=hc' (k-1) (by omega);clear hc hcell hc' hcell';have h0':0<k:=by omega
    rcases K6 (nth l (k-1)) (nth m (k-1)) with ht | ht | ht
    ·have hq:((nth l (k-1):Int) != (nth m (k-1):Int))=true:=by simp;omega
     go_wp2_with fail
     go_quiet (fail)
     go_wp2_with fail
     go_quiet (fail)
     go_wp2;go_ret;refine⟨?_,_,by rw[World.drewN_drewN,World.drewN_drewN]⟩;rw[Fe hl HL.out h0' hk hd.out ht];rfl
    ·have hq:((nth l (k-1):Int) != (nth m (k-1):Int))=false:=by simp;omega
     have HT:=Ip ht;clear ht;go_wp2_with fail
     go_quiet (fail)
     go_wp2;go_roundw;case rel=>exact⟨k-1,_,by omega,by go_num,sf h0' hk hk2 hd HT.out,rfl⟩
     case measure=>simp[intOf];omega
    ·have hq:((nth l (k-1):Int) != (nth m (k-1):Int))=true:=by simp;omega
     go_wp2_with fail
     go_quiet (fail)
     go_wp2_with fail
     go_quiet (fail)
     go_wp2;go_ret;refine⟨?_,_,by rw[World.drewN_drewN,World.drewN_drewN]⟩;rw[CH hm HL.out h0' hk hd.out ht];rfl
 ·by_cases hlt:l.length<m.length
  ·have hne:(((l.length:Nat):Int) != ((m.length:Nat):Int))=true:=by simp;omega
   go_enter Tryz.func158,Tryz.ntmps158;go_wp2;go_ret;refine⟨?_,0,rfl⟩;rw[CF hl hm hlt];rfl
  ·have hne:(((l.length:Nat):Int) != ((m.length:Nat):Int))=true:=by simp;omega
   go_enter Tryz.func158,Tryz.ntmps158;go_wp2;go_ret;refine⟨?_,0,rfl⟩;rw[AN hl hm (by omega)];rfl
structure j7 (l lo:List Nat) (d k r:Nat):Prop where
 len:lo.length=l.length
 dig:∀ x∈lo,x<BB
 rest:r<d
 val:val BB (l.drop k)=d*val BB (lo.drop k)+r
theorem ly {l:List Nat}{k q:Nat} (h:k<l.length):(l.set k q).drop k=q :: l.drop (k+1):=by
 rw[Jr (by simpa using h)];simp[List.drop_set]
theorem wV (l:List Nat) (d:Nat) (hd:0<d):j7 l (List.replicate l.length 0) d l.length 0:=by
 refine⟨by simp,?_,hd,?_⟩
 ·intro x hx;rw[JS hx];decide
 ·rw[Jt (Iw _),Jt (by simp)];simp
theorem yS {l lo:List Nat}{d k r:Nat} (hl:∀ x∈l,x<BB) (h:j7 l lo d k r) (h0:0<k) (hk:k<=l.length) :
  j7 l (lo.set (k-1) ((r*1000000000+nth l (k-1)) / d)) d (k-1) ((r*1000000000+nth l (k-1)) % d):=by
 have hd:0<d:=by have:=h.rest;omega
 have hx:=cY hl (show k-1<l.length by omega);have e:=h.val;refine⟨by simp[h.len],?_,Jw _ hd,?_⟩
 ·intro x hx';rcases KM hx' with hm | rfl
  ·exact h.dig x hm
  ·rw[JR hd];have:(r+1)*1000000000<=d*1000000000:=IJ _ h.rest;simp only[BB] at hx |-;rw[IM 1000000000 d];omega
 ·rw[g_ h0 hk,ly (by rw[h.len];omega),show k-1+1=k by omega,eH,eH,e];have:=Jh (r*1000000000+nth l (k-1)) d;simp only[BB] at *
  generalize val 1000000000 (List.drop k lo)=V at *
  generalize (r*1000000000+nth l (k-1)) / d=q at *
  generalize (r*1000000000+nth l (k-1)) % d=m at *
  have e1:1000000000*(d*V+r)=d*(1000000000*V)+r*1000000000:=by grind
  have e2:d*(q+1000000000*V)=d*q+d*(1000000000*V):=by grind
  omega
theorem Ez {d r x:Nat} (hd:d<=1000000000) (hr:r<d) (hx:x<BB):r*1000000000+x<=999999999999999999:=by
 have:(r+1)*1000000000<=d*1000000000:=IJ _ hr;have hx':x<1000000000:=hx;omega
theorem BS {l lo:List Nat}{d r:Nat} (h:j7 l lo d 0 r):aq BB (val BB l / d)=lean lo/\r=val BB l % d:=by
 have e:=h.val;simp only[IA] at e;have hd:0<d:=by have:=h.rest;omega
 have hq:val BB l / d=val BB lo:=by rw[e,Nat.mul_add_div hd,JM h.rest,I7]
 have hr:val BB l % d=r:=by rw[e,Nat.mul_add_mod,J9 h.rest]
 rw[hq,hr];exact⟨(c_ aT h.dig).symm,rfl⟩
theorem di.lean {w:World}{g cap:Nat}{l:List Nat} (h:di w g cap l):di w g cap (lean l):=by
 obtain⟨h1,h2⟩:=h;refine⟨by rw[oC,JO],?_⟩;rcases h2 with ⟨h',_⟩ | ⟨g',cap',cur,e,hb,hg,hn,hm,hs,ht⟩
 ·simp at h'
 ·have e':=e;simp at e';obtain⟨rfl,rfl⟩:=e';refine Or.inr ⟨g,cap,cur,rfl,hb,hg,IB (bO l) hn,hm,hs,?_⟩;have hle:=bO l;rw[JO] at ht |-;have:List.take (Dg.lean l).length (List.take l.length cur.toList)=gO (Dg.lean l):=by rw[ht,<-tn,kX]
  rw[Lr,Jp hle] at this;exact this
theorem sV (va:Value) (l:List Nat) (d:Nat) (w:World) (ha:IsU w va l) (hl:∀ x∈l,x<BB) (hlen:l.length<1000000) (hd:0<d) (hd2:d<=1000000000) :
  Calls Tryz.prog 159 #[va,.int .u64 d] w fun e w'=>∃ g cap,e=.returned (.tuple #[.slice (some ⟨g,0,none⟩) (aq BB (val BB l / d)).length cap,.int .u64 ((val BB l % d:Nat):Int)]) /\
   w.heap.size<=g/\di w' g cap (aq BB (val BB l / d))/\Below w.heap.size w w':=by
 obtain⟨p,cap,rfl,hlc,hcm,hcell⟩:=ha;unfold maxLen at hcm;go_enter Tryz.func159,Tryz.ntmps159;go_wp2_with (at_make;refine gx 87 Tryz.underlying87 rfl (.tmp 10) (.tmp 10) rfl _ _ l.length rfl rfl rfl rfl ?c1 ?_)
 case c1=>omega
 intro w0 hrow hb0 hs0;have hb1:=hb0 _ _ (Below.refl _ _) (Iw _);clear hb0;go_wp2;go_loopw [7,8] (fun s7 s8 wr=>∃ (k r:Nat) (lo:List Nat),k<=l.length/\s7=.int .u64 r/\s8=.int .i64 ((k:Int)-1)/\Hid (j7 l lo d k r)/\Hid (di wr w.heap.size l.length lo)/\Below w.heap.size w wr) (fun _ s8 _=>(intOf s8+1).toNat)
 case atStart=>exact⟨l.length,0,_,Iw _,rfl,rfl,wV l d hd,hrow,hb1⟩
 case round =>
  obtain⟨k,r,lo,hk,rfl,rfl,hrel,hrow',hb⟩:=hrel;clear hrow hs0 hb1;by_cases h0:k=0
  ·subst h0;have hle:=hrow'.out.isU;rw[hrel.out.len] at hle;have hend:=Ip (BS hrel.out);go_wp2_with (go_at_call 161;refine (jg _ _ _ lo _ (by exact hle)).mono ?_;rintro e w' ⟨rfl,rfl⟩)
   go_ret2
   refine⟨w.heap.size,l.length,?_,Iw _,?_,hb⟩
   ·rw[hend.out.1,<-hend.out.2];rfl
   ·rw[hend.out.1];exact hrow'.out.lean
  ·obtain⟨b,o,rfl,hbw,hc⟩:=hcell (by omega);have hc1:=(hb.cell (p:=⟨b,o+(k-1),none⟩) hbw).trans (hc (k-1) (by omega));have hx:=cY hl (show k-1<l.length by omega);have hlo:=Ez hd2 hrel.out.rest hx;have hr:=hrel.out.rest;clear hc hcell;have h0':0<k:=by omega
   have hx':nth l (k-1)<1000000000:=hx;clear hx;have ho:=hrow'.out.cell (j:=k-1) (by rw[hrel.out.len];omega);have hf:=hrow'.out.free (k-1);go_wp2;go_roundw;case rel=>exact⟨k-1,_,_,by omega,by go_num,by go_num,yS hl hrel.out h0' hk,hrow'.out.set (k-1) _ _ (by go_num),hb.setCell (p:=⟨w.heap.size,k-1,none⟩) (Iw _) _⟩
   case measure=>simp[intOf];omega
theorem b_ {l:List Nat}{k j d:Nat} (h:j≠k):nth (l.set k d) j=nth l j:=by
 simp only[nth,IK,List.getElem?_set_ne (Ne.symm h)]
theorem db {l:List Nat}{k d b:Nat} (hl:∀ x∈l,x<b) (hd:d<b):∀ x∈l.set k d,x<b:=by
 intro x hx;rcases KM hx with hm | rfl
 ·exact hl x hm
 ·exact hd
structure TIn (lo0 m:List Nat) (x i k c:Nat) (lo:List Nat):Prop where
 len:lo.length=lo0.length
 dig:∀ d∈lo,d<BB
 car:c<BB
 val:Dg.val BB lo+c*BB ^ (i+k)=Dg.val BB lo0+x*Dg.val BB (m.take k)*BB ^ i
 same:∀ j,i+k<=j->nth lo j=nth lo0 j
theorem F7 {c o x y:Nat} (hc:c<BB) (ho:o<BB) (hx:x<BB) (hy:y<BB):c+(o+x*y)<BB*BB:=by
 have:x*y<=(BB-1)*(BB-1):=Je (by omega) (by omega);simp only[BB] at *;omega
theorem B4 (lo0 m:List Nat) (x i:Nat) (h:∀ d∈lo0,d<BB):TIn lo0 m x i 0 0 lo0:=by
 refine⟨rfl,h,by decide,by simp,fun _ _=>rfl⟩
theorem gX {b:Nat}{l:List Nat}{k d:Nat} (h:k<l.length):val b (l.set k d)+nth l k*b ^ k=val b l+d*b ^ k:=by
 rw[eF l k h];exact Aq b l k d h
theorem cL {b:Nat}{l:List Nat}{k:Nat} (h:k<l.length):val b (l.take (k+1))=val b (l.take k)+nth l k*b ^ k:=by
 rw[eF l k h];exact iZ b l k h
theorem EK {lo0 m lo:List Nat}{x i k c:Nat} (h:TIn lo0 m x i k c lo) (hk:k<m.length) (hik:i+k<lo0.length) (hx:x<BB) (hm:∀ d∈m,d<BB) :
  TIn lo0 m x i (k+1) ((c+(nth lo (i+k)+x*nth m k)) / BB) (lo.set (i+k) ((c+(nth lo (i+k)+x*nth m k)) % BB)):=by
 have hlen:i+k<lo.length:=by rw[h.len];exact hik
 have hS:=F7 h.car (cY h.dig hlen) hx (cY hm hk);have hpos:0<BB:=by decide
 refine⟨by simp[h.len],db h.dig (Jw _ hpos),by rw[JR hpos];exact hS,?_,?_⟩
 ·have e1:=gX (b:=BB) (d:=(c+(nth lo (i+k)+x*nth m k)) % BB) hlen;have e2:=h.val;have e3:=cL (b:=BB) hk;have e4:=Jh (c+(nth lo (i+k)+x*nth m k)) BB;rw[e3];generalize (c+(nth lo (i+k)+x*nth m k)) / BB=q at *
  generalize (c+(nth lo (i+k)+x*nth m k)) % BB=r at *
  generalize nth lo (i+k)=o at *
  generalize nth m k=y at *
  have e5:BB ^ (i+(k+1))=BB*BB ^ (i+k):=by rw[<-J7,IN,IM]
  have e6:BB ^ (i+k)=BB ^ i*BB ^ k:=JX ..;rw[e5]
  have e7:q*(BB*BB ^ (i+k))+r*BB ^ (i+k)=c*BB ^ (i+k)+o*BB ^ (i+k)+x*y*BB ^ (i+k):=by
   have:(BB*q+r)*BB ^ (i+k)=(c+(o+x*y))*BB ^ (i+k):=by rw[e4]
   grind
  have e8:x*(val BB (m.take k)+y*BB ^ k)*BB ^ i=x*val BB (m.take k)*BB ^ i+x*y*BB ^ (i+k):=by rw[e6];grind
  omega
 ·intro j hj;rw[b_ (by omega)];exact h.same j (by omega)
structure rF (l m:List Nat) (i:Nat) (lo:List Nat):Prop where
 len:lo.length=l.length+m.length
 dig:∀ d∈lo,d<BB
 val:Dg.val BB lo=Dg.val BB (l.take i)*Dg.val BB m
 zero:∀ j,i+m.length<=j->nth lo j=0
theorem y8 (l m:List Nat):rF l m 0 (List.replicate (l.length+m.length) 0):=by
 refine⟨by simp,?_,by simp[nP],?_⟩
 ·intro d hd;rw[JS hd];decide
 ·intro j _;simp[nth,Kl];split<;>rfl
theorem yY {l m lo0 lo:List Nat}{i:Nat} (h:rF l m i lo0) (hi:i<l.length) (hin:TIn lo0 m (nth l i) i m.length 0 lo):rF l m (i+1) lo:=by
 refine⟨by rw[hin.len,h.len],hin.dig,?_,?_⟩
 ·have e:=hin.val;rw[JE,I7,IE (Iw _),h.val] at e;rw[e,cL hi];grind
 ·intro j hj;rw[hin.same j (by omega)];exact h.zero j (by omega)
theorem yZ {l m lo0 lo:List Nat}{i c:Nat} (h:rF l m i lo0) (hi:i<l.length) (hin:TIn lo0 m (nth l i) i m.length c lo) :
  rF l m (i+1) (lo.set (i+m.length) c):=by
 have hlen:i+m.length<lo.length:=by rw[hin.len,h.len];omega
 have hz:nth lo (i+m.length)=0:=by rw[hin.same _ (Iw _)];exact h.zero _ (Iw _)
 refine⟨by simp[hin.len,h.len],db hin.dig hin.car,?_,?_⟩
 ·have e:=hin.val;have e1:=gX (b:=BB) (d:=c) hlen;rw[hz,JE,I7] at e1;rw[IE (Iw _),h.val] at e;rw[e1,e,cL hi];grind
 ·intro j hj;rw[b_ (by omega),hin.same j (by omega)];exact h.zero j (by omega)
theorem B_ {l m lo0 lo:List Nat}{i c:Nat} (h:rF l m i lo0) (hin:TIn lo0 m (nth l i) i m.length c lo):nth lo (i+m.length)=0:=by
 rw[hin.same _ (Iw _)];exact h.zero _ (Iw _)
theorem EL {l m lo:List Nat} (h:rF l m l.length lo):lean lo=aq BB (val BB l*val BB m):=by
 have:=c_ aT h.dig;rw[h.val,IE (Iw _)] at this;exact this
theorem nlt {l:List Nat}{j:Nat} (hl:∀ d∈l,d<BB) (h:j<l.length):nth l j<1000000000:=cY hl h
def Cp (l m lo1:List Nat) (i c c' k':Nat) (lo2:List Nat):Prop:=(c'=c/\k'=i+m.length/\lo2=lo1/\0<c)\/(c'=0/\rF l m (i+1) lo2)
theorem uD {l m lo0 lo:List Nat}{i c:Nat} (h:rF l m i lo0) (hi:i<l.length) (hin:TIn lo0 m (nth l i) i m.length c lo):Cp l m lo i c c (i+m.length) lo:=by
 by_cases hc:c=0
 ·subst hc;exact Or.inr ⟨rfl,yY h hi hin⟩
 ·exact Or.inl ⟨rfl,rfl,rfl,by omega⟩
theorem th (va vb:Value) (l m:List Nat) (w:World) (ha:IsU w va l) (hb:IsU w vb m) (hl:∀ x∈l,x<BB) (hm:∀ x∈m,x<BB) (hll:l.length<1000000) (hlm:m.length<1000000) :
  Calls Tryz.prog 160 #[va,vb] w fun e w'=>∃ g cap,e=.returned (.slice (some ⟨g,0,none⟩) (aq BB (val BB l*val BB m)).length cap) /\
   w.heap.size<=g/\cap=l.length+m.length/\di w' g cap (aq BB (val BB l*val BB m))/\Below w.heap.size w w':=by
 obtain⟨p,cap,rfl,hlc,hcm,hcell⟩:=ha;obtain⟨p',cap',rfl,hlc',hcm',hcell'⟩:=hb;unfold maxLen at hcm hcm';go_enter Tryz.func160,Tryz.ntmps160;go_wp2_with (at_make;refine gx 87 Tryz.underlying87 rfl (.tmp 16) (.tmp 16) rfl _ _ (l.length+m.length) rfl rfl (by simp) (by simp) ?c1 ?_)
 case c1=>omega
 intro w0 hrow hb0 hs0;have hb1:=hb0 _ _ (Below.refl _ _) (Iw _);clear hb0;go_wp2;go_loopw [20] (fun s20 wr=>∃ (i:Nat) (lo:List Nat),i<=l.length/\s20=.int .i64 i/\Hid (rF l m i lo)/\Hid (di wr w.heap.size (l.length+m.length) lo)/\Below w.heap.size w wr) (fun s20 _=>l.length-(intOf s20).toNat)
 case atStart=>exact⟨0,_,IF _,rfl,y8 l m,hrow,hb1⟩
 case round =>
  obtain⟨i,lo,hi,rfl,hout,hro,hbw⟩:=hrel;clear hrow hb1 hs0;by_cases h0:i<l.length
  ·obtain⟨b,o,rfl,hbb,hc⟩:=hcell (by omega);have hc1:=(hbw.cell (p:=⟨b,o+i,none⟩) hbb).trans (hc i h0);have hx:=nlt hl h0;obtain⟨wo,hwo⟩:∃ wo:World,wo=wr:=⟨_,rfl⟩;subst hwo;clear hc hcell;have hlen:=Ip hout.out.len;go_wp2;go_loopw [8,27] (fun s8 s27 wr=>∃ (k c:Nat) (lo1:List Nat),k<=m.length/\s8=.int .u64 c/\s27=.int .i64 k/\Hid (TIn lo m (nth l i) i k c lo1)/\Hid (di wr w.heap.size (l.length+m.length) lo1)/\Below w.heap.size w wr) (fun _ s27 _=>m.length-(intOf s27).toNat)
   case atStart=>exact⟨0,0,lo,IF _,rfl,rfl,B4 lo m _ i hout.out.dig,hro,hbw⟩
   case round =>
    obtain⟨k,c,lo1,hk,rfl,rfl,hin,hro1,hbw1⟩:=hrel;clear hc1;by_cases hk0:k<m.length
    ·obtain⟨b',o',rfl,hbb',hc'⟩:=hcell' (by omega);have hc1':=(hbw1.cell (p:=⟨b',o'+k,none⟩) hbb').trans (hc' k hk0);clear hc' hcell';have hlen1:i+k<lo1.length:=by rw[hin.out.len,hlen.out];omega
     have hy:=nlt hm hk0;have hc8:c<1000000000:=hin.out.car;have hoc:=nlt hin.out.dig hlen1;have hxy:nth l i*nth m k<=999999999*999999999:=Je (by omega) (by omega);have hxy0:0<=(nth l i:Int)*(nth m k:Int):=by omega
     have ho:=hro1.out.cell hlen1;have hf:=hro1.out.free (i+k);go_wp2;go_roundw;case rel=>exact⟨k+1,_,_,by omega,by go_num,by go_num,EK hin.out hk0 (by rw[hlen.out];omega) hx hm,hro1.out.set (i+k) _ _ (by go_num),hbw1.setCell (p:=⟨w.heap.size,i+k,none⟩) (Iw _) _⟩
     case measure=>simp[intOf];omega
    ·have hkm:k=m.length:=by omega
     subst hkm;clear hk hk0;have hc8:c<1000000000:=hin.out.car;go_wp2;go_loopw [8,11] (fun s8 s11 wq=>∃ (c' k':Nat) (lo2:List Nat),s8=.int .u64 c'/\s11=.int .i64 k'/\k'<=l.length+m.length/\c'<=c/\Cp l m lo1 i c c' k' lo2/\Hid (di wq w.heap.size (l.length+m.length) lo2)/\Below w.heap.size w wq) (fun s8 _ _=>(intOf s8).toNat)
     case atStart=>exact⟨c,i+m.length,lo1,rfl,by go_num,by omega,Iw _,uD hout.out h0 hin.out,hro1,hbw1⟩
     case round =>
      obtain⟨c',k',lo2,rfl,rfl,hk',hcc,hth,hro2,hbw2⟩:=hrel;rcases hth with ⟨rfl,hkk,rfl,hc0⟩ | ⟨rfl,hend⟩
      ·have hz:=B_ hout.out hin.out;have hlen2:i+m.length<lo2.length:=by rw[hin.out.len,hlen.out];omega
       have ho:=hro2.out.cell hlen2;rw[hz] at ho;have hf:=hro2.out.free (i+m.length);have hk2:k'=i+m.length:=hkk;subst hk2;go_wp2;go_roundw;case rel=>exact⟨0,i+m.length+1,_,by go_num,by go_num,by omega,by omega,Or.inr ⟨rfl,yZ hout.out h0 hin.out⟩,hro2.out.set (i+m.length) c' _ (by go_num),hbw2.setCell (p:=⟨w.heap.size,i+m.length,none⟩) (Iw _) _⟩
       case measure=>simp[intOf];omega
      ·go_wp2;go_roundw;case rel=>exact⟨i+1,lo2,by omega,by go_num,hend,hro2,hbw2⟩
       case measure=>simp[intOf];omega
  ·have:i=l.length:=by omega
   subst this;clear h0;have hle:=hro.out.isU;rw[hout.out.len] at hle;have hend:=Ip (EL hout.out);go_wp2_with (go_at_call 161;refine (jg _ _ _ lo _ (by exact hle)).mono ?_;rintro e w' ⟨rfl,rfl⟩)
   go_ret;refine⟨w.heap.size,l.length+m.length,?_,Iw _,rfl,?_,hbw⟩
   ·rw[<-hend.out];rfl
   ·rw[<-hend.out];exact hro.out.lean
end Go.Proofs.YtlhpcoelfhjomaaGreatDoor
