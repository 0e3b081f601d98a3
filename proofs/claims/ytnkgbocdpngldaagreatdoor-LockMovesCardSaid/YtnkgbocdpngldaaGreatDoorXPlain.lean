/- Lemmas of this claim. -/
import Derived.Lib.PathFns
import Derived.Test.YtnkgbocdpngldaaGreatDoorXMach
set_option linter.all false
set_option maxRecDepth 100000
set_option maxHeartbeats 8000000
namespace Go.Proofs.YtnkgbocdpngldaaGreatDoor.Dc
def dg (k:Nat):UInt8:=UInt8.ofNat (48+k)
def dec (n:Nat):List UInt8:=if _h:n<10 then [dg n] else dec (n / 10)++[dg (n % 10)]
termination_by n
decreasing_by omega
theorem dS {n:Nat} (h:n<10):dec n=[dg n]:=by rw[dec,dif_pos h]
theorem gZ {n:Nat} (h:10≤n):dec n=dec (n / 10)++[dg (n % 10)]:=by rw[dec,dif_neg (by omega)]
theorem fD (n:Nat):dec n≠[]:=by
 by_cases h:n<10
 ·rw[dS h];simp
 ·rw[gZ (by omega)];simp
theorem fC (n:Nat):0<(dec n).length:=Dn.2 (fD n)
theorem bX {k n:Nat} (hk:1≤k) (h:n<10 ^ k):(dec n).length≤k:=by
 induction k generalizing n with
 | zero=>omega
 | succ k ih =>
  by_cases hn:n<10
  ·rw[dS hn];simp
  ·rw[gZ (by omega),Dd]
   have hk1:1≤k:=by
    cases k with
    | zero=>simp at h;omega
    | succ k=>omega
   have:=ih hk1 (n:=n / 10) (by rw[Dp] at h;omega)
   simp;omega
theorem Ay {k n:Nat} (h:10 ^ k≤n):k+1≤(dec n).length:=by
 induction k generalizing n with
 | zero=>exact fC n
 | succ k ih =>
  have h10:10≤n:=by
   have:10 ^ 1≤10 ^ (k+1):=DB (by omega) (by omega)
   omega
  rw[gZ h10,Dd]
  have:=ih (n:=n / 10) (by rw[Dp] at h;omega)
  simp;omega
def low:Nat→Nat→List UInt8
 | 0,_=>[]
 | k+1,n=>low k (n / 10)++[dg (n % 10)]
theorem ib (k n:Nat):(low k n).length=k:=by
 induction k generalizing n with
 | zero=>rfl
 | succ k ih=>simp[low,ih]
theorem y8 (k:Nat):low k 0=List.replicate k 48:=by
 induction k with
 | zero=>rfl
 | succ k ih=>simp only[low,Nat.zero_div,ih,Nat.zero_mod];exact (List.replicate_succ' ..).symm
theorem jq (k n:Nat) (h:10 ^ k≤n):dec n=dec (n / 10 ^ k)++low k (n % 10 ^ k):=by
 induction k generalizing n with
 | zero=>simp[low]
 | succ k ih =>
  have h10:10≤n:=by
   have:10 ^ 1≤10 ^ (k+1):=DB (by omega) (by omega)
   omega
  have hq:10 ^ k≤n / 10:=by rw[Dp] at h;omega
  rw[gZ h10,ih _ hq,low,DM]
  have e1:n / 10 / 10 ^ k=n / 10 ^ (k+1):=by rw[Nat.div_div_eq_div_mul,Dp,Dx]
  have e2:n % 10 ^ (k+1) / 10=n / 10 % 10 ^ k:=by
   rw[Dp,Dx,Nat.mod_mul_right_div_self]
  have e3:n % 10 ^ (k+1) % 10=n % 10:=by
   rw[Dp];exact Nat.mod_mod_of_dvd _ (Nat.dvd_mul_left _ _)
  rw[e1,e2,e3]
theorem BZ (k n:Nat) (hk:1≤k) (h:n<10 ^ k):low k n=List.replicate (k-(dec n).length) 48++dec n:=by
 induction k generalizing n with
 | zero=>omega
 | succ k ih =>
  by_cases hn:n<10
  ·rw[low,Ec hn,y8,dS hn,Ez hn];simp
  ·have hk1:1≤k:=by
    cases k with
    | zero=>simp at h;omega
    | succ k=>omega
   have hd:n / 10<10 ^ k:=by rw[Dp] at h;omega
   rw[low,ih _ hk1 hd,gZ (n:=n) (by omega),DM,Dd]
   simp
def a7 (c:UInt8):Bool:=decide (48≤c.toNat)&&decide (c.toNat≤57)
def aR (l:List UInt8):Nat:=l.foldl (fun n c=>10*n+(c.toNat-48)) 0
theorem wi (l:List UInt8) (n:Nat):l.foldl (fun n c=>10*n+(c.toNat-48)) n=n*10 ^ l.length+aR l:=by
 induction l generalizing n with
 | nil=>simp[aR]
 | cons c l ih =>
  simp only[List.foldl_cons,Dj,aR]
  rw[ih,ih (10*0+(c.toNat-48)),Dp]
  grind
theorem dO (l m:List UInt8):aR (l++m)=aR l*10 ^ m.length+aR m:=by
 rw[aR,FI,wi];rfl
theorem lU (l:List UInt8) (c:UInt8):aR (l++[c])=10*aR l+(c.toNat-48):=by
 rw[dO];simp[aR];omega
theorem fw (l:List UInt8) (h:l.all a7=true):aR l<10 ^ l.length:=by
 induction l with
 | nil=>simp[aR]
 | cons c l ih =>
  simp only[Fc,Da] at h
  have ih:=ih h.2
  have hc:c.toNat≤57:=by have:=h.1;simp[a7] at this;exact this.2
  have:c :: l=[c]++l:=rfl
  rw[this,dO]
  simp only[aR,List.foldl_cons,List.foldl_nil,Dd,Dj,DW,Fe] at *
  have h2:(10*0+(c.toNat-48))*10 ^ l.length≤9*10 ^ l.length:=Di _ (by omega)
  omega
theorem lG {k:Nat} (h:k<10):(dg k).toNat=48+k:=by
 rw[dg,UInt8.toNat_ofNat'];exact Ez (by omega)
theorem lZ {k:Nat} (h:k<10):a7 (dg k)=true:=by
 simp only[a7,lG h];simp;omega
theorem eR (n:Nat):(dec n).all a7=true:=by
 induction n using Nat.strongRecOn with
 | ind n ih =>
  by_cases h:n<10
  ·rw[dS h];simp[lZ h]
  ·rw[gZ (by omega)]
   simp[ih (n / 10) (by omega),lZ (Eg n (by omega))]
theorem kf (n:Nat):aR (dec n)=n:=by
 induction n using Nat.strongRecOn with
 | ind n ih =>
  by_cases h:n<10
  ·rw[dS h];simp[aR,lG h]
  ·rw[gZ (by omega),lU,ih (n / 10) (by omega),lG (Eg n (by omega))];omega
end Go.Proofs.YtnkgbocdpngldaaGreatDoor.Dc
namespace Go.Proofs.YtnkgbocdpngldaaGreatDoor.Dg
def val (b:Nat):List Nat→Nat
 | []=>0
 | d :: l=>d+b*val b l
@[simp] theorem val_nil (b:Nat):val b []=0:=rfl
@[simp] theorem dD (b d:Nat) (l:List Nat):val b (d :: l)=d+b*val b l:=rfl
theorem oc (b:Nat) (l m:List Nat):val b (l++m)=val b l+b ^ l.length*val b m:=by
 induction l with
 | nil=>simp
 | cons d l ih=>simp only[Ei,dD,ih,Dj,Dp];grind
theorem fg (b:Nat) (l:List Nat) (h:∀ d∈l,d<b):val b l<b ^ l.length:=by
 induction l with
 | nil=>simp
 | cons d l ih =>
  have h1:=ih (fun x hx=>h x (DZ _ hx))
  have h2:=h d (DC ..)
  simp only[dD,Dj,Dp]
  have:b*(val b l+1)≤b*b ^ l.length:=DE _ h1
  rw[Dx (b ^ l.length) b]
  rw[FB] at this
  omega
theorem eE (b:Nat) (l:List Nat) (d:Nat):val b (l++[d])=val b l+b ^ l.length*d:=by
 rw[oc];simp
theorem lO (b n:Nat):val b (List.replicate n 0)=0:=by
 induction n with
 | zero=>simp
 | succ n ih=>simp[List.replicate_succ,ih]
theorem vm (b:Nat):∀ (l:List Nat) (k d:Nat) (h:k<l.length),val b (l.set k d)+l[k]*b ^ k=val b l+d*b ^ k
 | [],k,d,h=>by simp at h
 | x :: l,0,d,h=>by simp;omega
 | x :: l,k+1,d,h=>by
  have hk:k<l.length:=by simpa using h
  have ih:=vm b l k d hk
  simp only[CZ,dD,C2,Dp]
  have:b*(val b (l.set k d)+l[k]*b ^ k)=b*(val b l+d*b ^ k):=by rw[ih]
  grind
theorem gh (b:Nat) (l:List Nat) (k:Nat) (h:k<l.length):val b (l.take (k+1))=val b (l.take k)+l[k]*b ^ k:=by
 rw[Eb h,eE,Dy]
 rw[DL (by omega),Dx]
theorem eO (b:Nat) (l:List Nat) (k:Nat):val b l=val b (l.take k)+b ^ (min k l.length)*val b (l.drop k):=by
 have:=oc b (l.take k) (l.drop k)
 rw[Fr] at this
 rw[this,Dy]
def Can (b:Nat) (l:List Nat):Prop:=(∀ d∈l,d<b)∧∀ hne,l.getLast hne≠0
theorem pW (b:Nat):Can b []:=⟨by simp,by simp⟩
def lean:List Nat→List Nat
 | []=>[]
 | d :: l=>match lean l with
  | []=>if d=0 then [] else [d]
  | e :: m=>d :: e :: m
theorem dU (d:Nat) (l:List Nat):lean (d :: l)=if lean l=[]∧d=0 then [] else d :: lean l:=by
 simp only[lean]
 cases h:lean l with
 | nil=>by_cases hd:d=0<;>simp[hd]
 | cons e m=>simp
theorem od (b:Nat) (l:List Nat):val b (lean l)=val b l:=by
 induction l with
 | nil=>rfl
 | cons d l ih =>
  rw[dU]
  split
  ·rename_i h;simp[←ih,h.1,h.2]
  ·simp[ih]
theorem nC (l:List Nat):lean (l++[0])=lean l:=by
 induction l with
 | nil=>simp[lean]
 | cons d l ih=>rw[Ei,dU,dU,ih]
theorem wC (l:List Nat) (d:Nat) (h:d≠0):lean (l++[d])=l++[d]:=by
 induction l with
 | nil=>simp[lean,h]
 | cons e l ih=>rw[Ei,dU,ih];simp
theorem rS {b:Nat}{l:List Nat} (h:∀ d∈l,d<b):Can b (lean l):=by
 induction l with
 | nil=>exact pW b
 | cons d l ih =>
  have ih:=ih (fun x hx=>h x (DZ _ hx))
  have hd:=h d (DC ..)
  rw[dU]
  split
  ·exact pW b
  ·rename_i hn
   refine⟨?_,?_⟩
   ·intro x hx
    rcases Dk.1 hx with rfl | hx
    ·exact hd
    ·exact ih.1 x hx
   ·intro hne
    by_cases hl:lean l=[]
    ·simp only[hl,List.getLast_singleton]
     intro h0;exact hn ⟨hl,h0⟩
    ·rw[FJ hl];exact ih.2 hl
theorem bK (l:List Nat):(lean l).length≤l.length:=by
 induction l with
 | nil=>simp[lean]
 | cons d l ih=>rw[dU];split<;>simp<;>omega
theorem lD (l:List Nat):l.take (lean l).length=lean l:=by
 induction l with
 | nil=>simp[lean]
 | cons d l ih=>rw[dU];split<;>simp[ih]
def ar (b n:Nat):List Nat:=if _h:n=0∨b<2 then [] else n % b :: ar b (n / b)
termination_by n
decreasing_by exact FQ (by omega) (by omega)
theorem b_ (b:Nat):ar b 0=[]:=by rw[ar];simp
theorem gA {b n:Nat} (hb:2≤b) (h:n≠0):ar b n=n % b :: ar b (n / b):=by
 rw[ar,dif_neg (by omega)]
theorem aB {b:Nat} (hb:2≤b) (n:Nat):val b (ar b n)=n:=by
 induction n using Nat.strongRecOn with
 | ind n ih =>
  by_cases h:n=0
  ·subst h;simp[b_]
  ·rw[gA hb h,dD,ih _ (FQ (by omega) hb)]
   exact Nat.mod_add_div n b
theorem cO {b n:Nat} (hb:2≤b):ar b n=[]↔n=0:=by
 constructor
 ·intro h
  by_cases h0:n=0
  ·exact h0
  ·rw[gA hb h0] at h;cases h
 ·rintro rfl;exact b_ b
theorem iN {b:Nat} (hb:2≤b) (n:Nat):Can b (ar b n):=by
 induction n using Nat.strongRecOn with
 | ind n ih =>
  by_cases h:n=0
  ·subst h;rw[b_];exact pW b
  ·have ih':=ih _ (FQ (EN h) hb)
   rw[gA hb h]
   refine⟨?_,?_⟩
   ·intro d hd
    rcases Dk.1 hd with rfl | hd
    ·exact Eg _ (by omega)
    ·exact ih'.1 d hd
   ·intro hne
    by_cases hl:ar b (n / b)=[]
    ·have hlt:n / b=0:=(cO hb).1 hl
     simp only[hl,List.getLast_singleton]
     have:=Nat.mod_add_div n b
     rw[hlt] at this
     omega
    ·rw[FJ hl];exact ih'.2 hl
theorem eD {b:Nat}{l:List Nat} (h:Can b l) (hne:l≠[]):b ^ (l.length-1)≤val b l:=by
 have hs:=Fz hne
 rw[←hs,eE]
 simp only[Dd,List.length_dropLast,Dj,DW]
 have h1:=EN (h.2 hne)
 have:b ^ (l.length-1)*1≤b ^ (l.length-1)*l.getLast hne:=DE _ h1
 have e:l.length-1+(0+1)-1=l.length-1:=by omega
 rw[e]
 omega
theorem iO {b:Nat} (hb:2≤b) {l:List Nat} (h:Can b l):ar b (val b l)=l:=by
 induction l with
 | nil=>simp[b_]
 | cons d l ih =>
  have hc:Can b l:=⟨fun x hx=>h.1 x (DZ _ hx),fun hne=>by have:=h.2 (by simp);rwa [FJ hne] at this⟩
  have hd:=h.1 d (DC ..)
  have hne:val b (d :: l)≠0:=by
   have:=eD h (by simp)
   have h2:0<b ^ ((d :: l).length-1):=EV (by omega)
   omega
  rw[gA hb hne,dD,Nat.add_mul_mod_self_left,Ez hd,Fu _ _ (by omega),Ec hd,D5,ih hc]
theorem aY {b:Nat} (hb:2≤b) {n k:Nat} (h:n<b ^ k):(ar b n).length≤k:=by
 by_cases hn:ar b n=[]
 ·simp[hn]
 ·have:=eD (iN hb n) hn
  rw[aB hb] at this
  have h2:b ^ ((ar b n).length-1)<b ^ k:=D_ this h
  have h3:=(Nat.pow_lt_pow_iff_right (by omega:1<b)).1 h2
  have:0<(ar b n).length:=Dn.2 hn
  omega
theorem bR {b:Nat} (hb:2≤b) (n:Nat):n<b ^ (ar b n).length:=by
 have:=fg b (ar b n) (iN hb n).1
 rwa [aB hb] at this
theorem cL {b:Nat} (hb:2≤b) {l:List Nat} (h:∀ d∈l,d<b):lean l=ar b (val b l):=by
 have:=iO hb (rS h)
 rw[od] at this
 exact this.symm
/-! comparison -/
theorem cG {b:Nat} (hb:2≤b) {l m:List Nat} (hl:Can b l) (hm:Can b m) (h:l.length<m.length):val b l<val b m:=by
 have h1:=fg b l hl.1
 have h2:=eD hm (by intro e;simp[e] at h)
 have h3:b ^ l.length≤b ^ (m.length-1):=DB (by omega) (by omega)
 omega
theorem eV {b:Nat}{l m:List Nat} (hl:∀ d∈l,d<b) (hlen:l.length=m.length) (k:Nat) (hk:k<l.length)
  (hsame:l.drop (k+1)=m.drop (k+1)) (hlt:l[k]<m[k]'(by omega)):val b l<val b m:=by
 have e1:=eO b l (k+1)
 have e2:=eO b m (k+1)
 have hk':k<m.length:=by omega
 rw[gh b l k hk] at e1
 rw[gh b m k hk'] at e2
 rw[hsame,DL (by omega)] at e1
 rw[DL (by omega)] at e2
 have h1:val b (l.take k)<b ^ k:=by
  have:=fg b (l.take k) (fun d hd=>hl d (Fb hd))
  rwa [Dy,DL (by omega)] at this
 have h2:(l[k]+1)*b ^ k≤m[k]*b ^ k:=Di _ hlt
 rw[D3] at h2
 omega
end Go.Proofs.YtnkgbocdpngldaaGreatDoor.Dg
namespace Go.Proofs.YtnkgbocdpngldaaGreatDoor
open Go.RowKit Dg
def BB:Nat:=1000000000
abbrev CB (l:List Nat):Prop:=Dg.Can BB l
theorem bc:2≤BB:=by decide
def j7 (n m:Nat) (l:List Nat):Prop:=l++ar BB m=ar BB n
theorem rY {n m:Nat}{l:List Nat} (h:j7 n m l) (hm:0<m):j7 n (m / 1000000000) (l++[m % 1000000000]):=by
 unfold j7 at *
 rw[gA bc (by omega)] at h
 rw[←h];simp[BB]
theorem oG {n m:Nat}{l:List Nat} (h:j7 n m l) (hn:n<18446744073709551616):l.length≤3:=by
 have h1:=aY bc (n:=n) (k:=3) (by simp only[BB];omega)
 unfold j7 at h
 rw[←h,Dd] at h1
 omega
theorem sf (n:Nat) (w:World) (hn:n<18446744073709551616) :
  Calls Tryz.prog 193 #[.int .u64 n] w fun e w'=>∃ v,e=.returned v∧fB w' w.heap.size v (ar BB n)∧Below w.heap.size w w':=by
 go_enter Tryz.func193,Tryz.ntmps193
 go_wp2
 go_loopw [0,3] (fun s0 s3 wr=>∃ (m:Nat) (l:List Nat),m<18446744073709551616∧s0=.int .u64 m∧fB wr w.heap.size s3 l∧Below w.heap.size w wr∧j7 n m l) (fun s0 _ _=>(intOf s0).toNat)
 case atStart=>exact⟨n,[],hn,rfl,World.ownsRow_nil _ _ _ _,Below.refl _ _,rfl⟩
 case round =>
  obtain⟨m,l,hm,rfl,hown,hb,hr⟩:=hrel
  have hsz:=hb.size
  have hll:=oG hr hn
  go_wp2_with (at_builtin;refine fh 189 Tryz.underlying189 rfl (.tmp 8) (.tmp 11) rfl w.heap.size _ l _ (m % 1000000000) (by omega) rfl hown rfl ?c1 hsz ?_)
  case c1=>omega
  ·intro v' w1 hown' hb'
   have hlt:0<m:=by assumption
   have hb1:=hb' _ _ hb (C6 _)
   have hr1:=rY hr hlt
   clear hown hb hb' hr
   go_wp2
   go_roundw
   case rel=>exact⟨m / 1000000000,l++[m % 1000000000],by omega,by go_num,hown',hb1,hr1⟩
   case measure=>simp[intOf];omega
  ·go_wp2
   go_ret
   have h0:m=0:=by omega
   subst h0
   refine⟨_,rfl,?_,hb⟩
   unfold j7 at hr
   rw[b_,DR] at hr
   rw[←hr];exact hown
theorem iV {l:List Nat}{k:Nat} (h0:0<k) (hk:k≤l.length) (hz:nth l (k-1)=0):lean (l.take (k-1))=lean (l.take k):=by
 have e:l.take k=l.take (k-1)++[0]:=by
  have:=Eb (l:=l) (i:=k-1) (by omega)
  rw[show k-1+1=k by omega] at this
  rw[this]
  rw[dC l _ (by omega)] at hz
  rw[hz]
 rw[e,nC]
theorem iU {l:List Nat}{k:Nat} (h0:0<k) (hk:k≤l.length) (hz:nth l (k-1)≠0):lean (l.take k)=l.take k:=by
 have e:l.take k=l.take (k-1)++[nth l (k-1)]:=by
  have:=Eb (l:=l) (i:=k-1) (by omega)
  rw[show k-1+1=k by omega] at this
  rw[this,dC l _ (by omega)]
 rw[e];exact wC _ _ hz
/-- lean: the same slice, cut behind its last digit that is not 0. -/
theorem iT (p:Option Addr) (N cap:Nat) (l:List Nat) (w:World) (hv:IsU w (.slice p N cap) l) :
  Calls Tryz.prog 176 #[.slice p N cap] w fun e w'=>e=.returned (.slice p (lean l).length cap)∧w=w':=by
 obtain⟨p',cap',he,hlc,hcm,hcell⟩:=hv
 obtain⟨rfl,rfl,rfl⟩:p'=p∧l.length=N∧cap'=cap:=by simp at he;exact⟨he.1.symm,he.2.1.symm,he.2.2.symm⟩
 clear he
 unfold maxLen at hcm
 go_enter Tryz.func176,Tryz.ntmps176
 go_wp2
 go_loop [0] (fun s0=>∃ k:Nat,k≤l.length∧s0=.slice p' k cap'∧Hid (lean (l.take k)=lean l)) (fun s0=>match s0 with | .slice _ n _=>n | _=>0)
 case atStart=>exact⟨l.length,C6 _,rfl,by unfold Hid;rw[DG]⟩
 case round =>
  obtain⟨k,hk,rfl,hl⟩:=hrel
  by_cases h0:k=0
  ·subst h0
   go_wp2
   go_ret
   refine⟨?_,rfl⟩
   rw[←hl.out];simp[lean]
  ·obtain⟨b,o,rfl,_,hc⟩:=hcell (by omega)
   have hc1:=hc (k-1) (by omega)
   clear hc hcell
   have h0':0<k:=by omega
   by_cases hz:nth l (k-1)=0
   ·have hz':((nth l (k-1):Int) == 0)=true:=by simp[hz]
    have H:=C5 hz
    clear hz
    go_wp2
    go_round
    case rel=>exact⟨k-1,by omega,by go_num,by unfold Hid;rw[iV h0' hk H.out];exact hl⟩
    case measure=>simp;omega
   ·have hz':((nth l (k-1):Int) == 0)=false:=by simp;omega
    go_wp2
    go_ret
    have:=hl.out
    rw[iU h0' hk hz] at this
    refine⟨?_,rfl⟩
    rw[←this,Dy,DL hk];rfl
def di (m n:Nat):Int:=if m<n then -1 else if m=n then 0 else 1
theorem xZ {l m:List Nat} (hl:CB l) (hm:CB m) (h:l.length<m.length):di (val BB l) (val BB m)=-1:=by
 have:=cG bc hl hm h
 simp[di,this]
theorem vH {l m:List Nat} (hl:CB l) (hm:CB m) (h:m.length<l.length):di (val BB l) (val BB m)=1:=by
 have:=cG bc hm hl h
 simp only[di];rw[if_neg (by omega),if_neg (by omega)]
theorem fx {l:List Nat}{k:Nat} (h0:0<k) (hk:k≤l.length):l.drop (k-1)=nth l (k-1) :: l.drop k:=by
 rw[dC l _ (by omega)]
 have:=DD (l:=l) (i:=k-1) (by omega)
 rw[this,show k-1+1=k by omega]
theorem oY {l m:List Nat}{k:Nat} (h0:0<k) (hk:k≤l.length) (hk2:k≤m.length) (hd:Hid (l.drop k=m.drop k))
  (ht:nth l (k-1)=nth m (k-1)):Hid (l.drop (k-1)=m.drop (k-1)):=by
 unfold Hid;rw[fx h0 hk,fx h0 hk2,ht,hd.out]
theorem AN {l m:List Nat}{k:Nat} (hl:CB l) (hlen:l.length=m.length) (h0:0<k) (hk:k≤l.length) (hd:l.drop k=m.drop k)
  (ht:nth l (k-1)<nth m (k-1)):di (val BB l) (val BB m)=-1:=by
 rw[dC l _ (by omega),dC m _ (by omega)] at ht
 have:=eV (b:=BB) hl.1 hlen (k-1) (by omega) (by rw[show k-1+1=k by omega];exact hd) ht
 simp[di,this]
theorem x6 {l m:List Nat}{k:Nat} (hm:CB m) (hlen:l.length=m.length) (h0:0<k) (hk:k≤l.length) (hd:l.drop k=m.drop k)
  (ht:nth m (k-1)<nth l (k-1)):di (val BB l) (val BB m)=1:=by
 rw[dC l _ (by omega),dC m _ (by omega)] at ht
 have:=eV (b:=BB) hm.1 hlen.symm (k-1) (by omega) (by rw[show k-1+1=k by omega];exact hd.symm) ht
 simp only[di];rw[if_neg (by omega),if_neg (by omega)]
theorem iJ (va vb:Value) (l m:List Nat) (w:World) (ha:IsU w va l) (hb:IsU w vb m) (hl:CB l) (hm:CB m) :
  Calls Tryz.prog 191 #[va,vb] w fun e w'=>e=.returned (.int .i64 (di (val BB l) (val BB m)))∧∃ n,w'=w.drewN n:=by
 obtain⟨p,cap,rfl,hlc,hcm,hcell⟩:=ha
 obtain⟨p',cap',rfl,hlc',hcm',hcell'⟩:=hb
 unfold maxLen at hcm hcm'
 by_cases hlen:l.length=m.length
 ·have hne:(((l.length:Nat):Int) != ((m.length:Nat):Int))=false:=by simp[hlen]
  have HL:=C5 hlen
  clear hlen
  go_enter Tryz.func191,Tryz.ntmps191
  go_wp2
  go_loopw [5] (fun s5 wr=>∃ k n:Nat,k≤l.length∧s5=.int .i64 ((k:Int)-1)∧Hid (l.drop k=m.drop k)∧wr=w.drewN n) (fun s5 _=>(intOf s5+1).toNat)
  case atStart=>exact⟨l.length,0,C6 _,rfl,by unfold Hid;rw[Dz (C6 _),Dz (by rw[HL.out];omega)],rfl⟩
  case round =>
   obtain⟨k,n,hk,rfl,hd,rfl⟩:=hrel
   by_cases h0:k=0
   ·subst h0
    go_wp2
    go_ret
    refine⟨?_,_,rfl⟩
    have:=hd.out
    simp only[Ek] at this
    subst this
    simp[di]
   ·have hk2:k≤m.length:=by have:=HL.out;omega
    obtain⟨b,o,rfl,_,hc⟩:=hcell (by omega)
    obtain⟨b',o',rfl,_,hc'⟩:=hcell' (by omega)
    have hc1:=hc (k-1) (by omega)
    have hc1':=hc' (k-1) (by omega)
    clear hc hcell hc' hcell'
    have h0':0<k:=by omega
    rcases Nat.lt_trichotomy (nth l (k-1)) (nth m (k-1)) with ht | ht | ht
    ·have hq:((nth l (k-1):Int) != (nth m (k-1):Int))=true:=by simp;omega
     go_wp2_with fail
     go_quiet (fail)
     go_wp2_with fail
     go_quiet (fail)
     go_wp2
     go_ret
     refine⟨?_,_,by rw[World.drewN_drewN,World.drewN_drewN]⟩
     rw[AN hl HL.out h0' hk hd.out ht];rfl
    ·have hq:((nth l (k-1):Int) != (nth m (k-1):Int))=false:=by simp;omega
     have HT:=C5 ht
     clear ht
     go_wp2_with fail
     go_quiet (fail)
     go_wp2
     go_roundw
     case rel=>exact⟨k-1,_,by omega,by go_num,oY h0' hk hk2 hd HT.out,rfl⟩
     case measure=>simp[intOf];omega
    ·have hq:((nth l (k-1):Int) != (nth m (k-1):Int))=true:=by simp;omega
     go_wp2_with fail
     go_quiet (fail)
     go_wp2_with fail
     go_quiet (fail)
     go_wp2
     go_ret
     refine⟨?_,_,by rw[World.drewN_drewN,World.drewN_drewN]⟩
     rw[x6 hm HL.out h0' hk hd.out ht];rfl
 ·by_cases hlt:l.length<m.length
  ·have hne:(((l.length:Nat):Int) != ((m.length:Nat):Int))=true:=by simp;omega
   go_enter Tryz.func191,Tryz.ntmps191
   go_wp2
   go_ret
   refine⟨?_,0,rfl⟩
   rw[xZ hl hm hlt];rfl
  ·have hne:(((l.length:Nat):Int) != ((m.length:Nat):Int))=true:=by simp;omega
   go_enter Tryz.func191,Tryz.ntmps191
   go_wp2
   go_ret
   refine⟨?_,0,rfl⟩
   rw[vH hl hm (by omega)];rfl
structure iG (l lo:List Nat) (d k r:Nat):Prop where
 len:lo.length=l.length
 dig:∀ x∈lo,x<BB
 rest:r<d
 val:val BB (l.drop k)=d*val BB (lo.drop k)+r
theorem jU {l:List Nat}{k q:Nat} (h:k<l.length):(l.set k q).drop k=q :: l.drop (k+1):=by
 rw[DD (by simpa using h)]
 simp[List.drop_set]
theorem sF (l:List Nat) (d:Nat) (hd:0<d):iG l (List.replicate l.length 0) d l.length 0:=by
 refine⟨by simp,?_,hd,?_⟩
 ·intro x hx;rw[Et hx];decide
 ·rw[Dz (C6 _),Dz (by simp)];simp
theorem ug {l lo:List Nat}{d k r:Nat} (hl:∀ x∈l,x<BB) (h:iG l lo d k r) (h0:0<k) (hk:k≤l.length) :
  iG l (lo.set (k-1) ((r*1000000000+nth l (k-1)) / d)) d (k-1) ((r*1000000000+nth l (k-1)) % d):=by
 have hd:0<d:=by have:=h.rest;omega
 have hx:=dp hl (show k-1<l.length by omega)
 have e:=h.val
 refine⟨by simp[h.len],?_,Eg _ hd,?_⟩
 ·intro x hx'
  rcases List.mem_or_eq_of_mem_set hx' with hm | rfl
  ·exact h.dig x hm
  ·rw[Eh hd]
   have:(r+1)*1000000000≤d*1000000000:=Di _ h.rest
   simp only[BB] at hx ⊢
   rw[Dx 1000000000 d];omega
 ·rw[fx h0 hk,jU (by rw[h.len];omega),show k-1+1=k by omega,dD,dD,e]
  have:=DT (r*1000000000+nth l (k-1)) d
  simp only[BB] at *
  generalize val 1000000000 (List.drop k lo)=V at *
  generalize (r*1000000000+nth l (k-1)) / d=q at *
  generalize (r*1000000000+nth l (k-1)) % d=m at *
  have e1:1000000000*(d*V+r)=d*(1000000000*V)+r*1000000000:=by grind
  have e2:d*(q+1000000000*V)=d*q+d*(1000000000*V):=by grind
  omega
theorem zV {d r x:Nat} (hd:d≤1000000000) (hr:r<d) (hx:x<BB):r*1000000000+x≤999999999999999999:=by
 have:(r+1)*1000000000≤d*1000000000:=Di _ hr
 have hx':x<1000000000:=hx
 omega
theorem xf {l lo:List Nat}{d r:Nat} (h:iG l lo d 0 r):ar BB (val BB l / d)=lean lo∧r=val BB l % d:=by
 have e:=h.val
 simp only[Ek] at e
 have hd:0<d:=by have:=h.rest;omega
 have hq:val BB l / d=val BB lo:=by rw[e,Nat.mul_add_div hd,Ec h.rest,DJ]
 have hr:val BB l % d=r:=by rw[e,Nat.mul_add_mod,Ez h.rest]
 rw[hq,hr]
 exact⟨(cL bc h.dig).symm,rfl⟩
theorem cF.lean {w:World}{g cap:Nat}{l:List Nat} (h:cF w g cap l):cF w g cap (lean l):=by
 obtain⟨h1,h2⟩:=h
 refine⟨by rw[mv,Er],?_⟩
 rcases h2 with ⟨h',_⟩ | ⟨g',cap',cur,e,hb,hg,hn,hm,hs,ht⟩
 ·simp at h'
 ·have e':=e
  simp at e'
  obtain⟨rfl,rfl⟩:=e'
  refine Or.inr ⟨g,cap,cur,rfl,hb,hg,Df (bK l) hn,hm,hs,?_⟩
  have hle:=bK l
  rw[Er] at ht ⊢
  have:List.take (Dg.lean l).length (List.take l.length cur.toList)=fe (Dg.lean l):=by rw[ht,←pO,lD]
  rw[List.take_take,DL hle] at this
  exact this
theorem pG (va:Value) (l:List Nat) (d:Nat) (w:World) (ha:IsU w va l) (hl:∀ x∈l,x<BB) (hlen:l.length<1000000) (hd:0<d) (hd2:d≤1000000000) :
  Calls Tryz.prog 192 #[va,.int .u64 d] w fun e w'=>∃ g cap,e=.returned (.tuple #[.slice (some ⟨g,0,none⟩) (ar BB (val BB l / d)).length cap,.int .u64 ((val BB l % d:Nat):Int)]) ∧
   w.heap.size≤g∧cF w' g cap (ar BB (val BB l / d))∧Below w.heap.size w w':=by
 obtain⟨p,cap,rfl,hlc,hcm,hcell⟩:=ha
 unfold maxLen at hcm
 go_enter Tryz.func192,Tryz.ntmps192
 go_wp2_with (at_make;refine gi 189 Tryz.underlying189 rfl (.tmp 10) (.tmp 10) rfl _ _ l.length rfl rfl rfl rfl ?c1 ?_)
 case c1=>omega
 intro w0 hrow hb0 hs0
 have hb1:=hb0 _ _ (Below.refl _ _) (C6 _)
 clear hb0
 go_wp2
 go_loopw [7,8] (fun s7 s8 wr=>∃ (k r:Nat) (lo:List Nat),k≤l.length∧s7=.int .u64 r∧s8=.int .i64 ((k:Int)-1)∧Hid (iG l lo d k r)∧Hid (cF wr w.heap.size l.length lo)∧Below w.heap.size w wr) (fun _ s8 _=>(intOf s8+1).toNat)
 case atStart=>exact⟨l.length,0,_,C6 _,rfl,rfl,sF l d hd,hrow,hb1⟩
 case round =>
  obtain⟨k,r,lo,hk,rfl,rfl,hrel,hrow',hb⟩:=hrel
  clear hrow hs0 hb1
  by_cases h0:k=0
  ·subst h0
   have hle:=hrow'.out.isU
   rw[hrel.out.len] at hle
   have hend:=C5 (xf hrel.out)
   go_wp2_with (go_at_call 176;refine (iT _ _ _ lo _ (by exact hle)).mono ?_;rintro e w' ⟨rfl,rfl⟩)
   go_ret2
   refine⟨w.heap.size,l.length,?_,C6 _,?_,hb⟩
   ·rw[hend.out.1,←hend.out.2];rfl
   ·rw[hend.out.1];exact hrow'.out.lean
  ·obtain⟨b,o,rfl,hbw,hc⟩:=hcell (by omega)
   have hc1:=(hb.cell (p:=⟨b,o+(k-1),none⟩) hbw).trans (hc (k-1) (by omega))
   have hx:=dp hl (show k-1<l.length by omega)
   have hlo:=zV hd2 hrel.out.rest hx
   have hr:=hrel.out.rest
   clear hc hcell
   have h0':0<k:=by omega
   have hx':nth l (k-1)<1000000000:=hx
   clear hx
   have ho:=hrow'.out.cell (j:=k-1) (by rw[hrel.out.len];omega)
   have hf:=hrow'.out.free (k-1)
   go_wp2
   go_roundw
   case rel=>exact⟨k-1,_,_,by omega,by go_num,by go_num,ug hl hrel.out h0' hk,hrow'.out.set (k-1) _ _ (by go_num),hb.setCell (p:=⟨w.heap.size,k-1,none⟩) (C6 _) _⟩
   case measure=>simp[intOf];omega
theorem bI {l:List Nat}{k j d:Nat} (h:j≠k):nth (l.set k d) j=nth l j:=by
 simp only[nth,FG,List.getElem?_set_ne (Ne.symm h)]
theorem cz {l:List Nat}{k d b:Nat} (hl:∀ x∈l,x<b) (hd:d<b):∀ x∈l.set k d,x<b:=by
 intro x hx
 rcases List.mem_or_eq_of_mem_set hx with hm | rfl
 ·exact hl x hm
 ·exact hd
structure TIn (lo0 m:List Nat) (x i k c:Nat) (lo:List Nat):Prop where
 len:lo.length=lo0.length
 dig:∀ d∈lo,d<BB
 car:c<BB
 val:Dg.val BB lo+c*BB ^ (i+k)=Dg.val BB lo0+x*Dg.val BB (m.take k)*BB ^ i
 same:∀ j,i+k≤j→nth lo j=nth lo0 j
theorem Bj {c o x y:Nat} (hc:c<BB) (ho:o<BB) (hx:x<BB) (hy:y<BB):c+(o+x*y)<BB*BB:=by
 have:x*y≤(BB-1)*(BB-1):=EM (by omega) (by omega)
 simp only[BB] at *;omega
theorem xy (lo0 m:List Nat) (x i:Nat) (h:∀ d∈lo0,d<BB):TIn lo0 m x i 0 0 lo0:=by
 refine⟨rfl,h,by decide,by simp,fun _ _=>rfl⟩
theorem fq {b:Nat}{l:List Nat}{k d:Nat} (h:k<l.length):val b (l.set k d)+nth l k*b ^ k=val b l+d*b ^ k:=by
 rw[dC l k h];exact vm b l k d h
theorem b8 {b:Nat}{l:List Nat}{k:Nat} (h:k<l.length):val b (l.take (k+1))=val b (l.take k)+nth l k*b ^ k:=by
 rw[dC l k h];exact gh b l k h
theorem Aj {lo0 m lo:List Nat}{x i k c:Nat} (h:TIn lo0 m x i k c lo) (hk:k<m.length) (hik:i+k<lo0.length) (hx:x<BB) (hm:∀ d∈m,d<BB) :
  TIn lo0 m x i (k+1) ((c+(nth lo (i+k)+x*nth m k)) / BB) (lo.set (i+k) ((c+(nth lo (i+k)+x*nth m k)) % BB)):=by
 have hlen:i+k<lo.length:=by rw[h.len];exact hik
 have hS:=Bj h.car (dp h.dig hlen) hx (dp hm hk)
 have hpos:0<BB:=by decide
 refine⟨by simp[h.len],cz h.dig (Eg _ hpos),by rw[Eh hpos];exact hS,?_,?_⟩
 ·have e1:=fq (b:=BB) (d:=(c+(nth lo (i+k)+x*nth m k)) % BB) hlen
  have e2:=h.val
  have e3:=b8 (b:=BB) hk
  have e4:=DT (c+(nth lo (i+k)+x*nth m k)) BB
  rw[e3]
  generalize (c+(nth lo (i+k)+x*nth m k)) / BB=q at *
  generalize (c+(nth lo (i+k)+x*nth m k)) % BB=r at *
  generalize nth lo (i+k)=o at *
  generalize nth m k=y at *
  have e5:BB ^ (i+(k+1))=BB*BB ^ (i+k):=by rw[←DS,Dp,Dx]
  have e6:BB ^ (i+k)=BB ^ i*BB ^ k:=Fe ..
  rw[e5]
  have e7:q*(BB*BB ^ (i+k))+r*BB ^ (i+k)=c*BB ^ (i+k)+o*BB ^ (i+k)+x*y*BB ^ (i+k):=by
   have:(BB*q+r)*BB ^ (i+k)=(c+(o+x*y))*BB ^ (i+k):=by rw[e4]
   grind
  have e8:x*(val BB (m.take k)+y*BB ^ k)*BB ^ i=x*val BB (m.take k)*BB ^ i+x*y*BB ^ (i+k):=by rw[e6];grind
  omega
 ·intro j hj
  rw[bI (by omega)]
  exact h.same j (by omega)
structure oA (l m:List Nat) (i:Nat) (lo:List Nat):Prop where
 len:lo.length=l.length+m.length
 dig:∀ d∈lo,d<BB
 val:Dg.val BB lo=Dg.val BB (l.take i)*Dg.val BB m
 zero:∀ j,i+m.length≤j→nth lo j=0
theorem uq (l m:List Nat):oA l m 0 (List.replicate (l.length+m.length) 0):=by
 refine⟨by simp,?_,by simp[lO],?_⟩
 ·intro d hd;rw[Et hd];decide
 ·intro j _;simp[nth,Fl];split<;>rfl
theorem um {l m lo0 lo:List Nat}{i:Nat} (h:oA l m i lo0) (hi:i<l.length) (hin:TIn lo0 m (nth l i) i m.length 0 lo):oA l m (i+1) lo:=by
 refine⟨by rw[hin.len,h.len],hin.dig,?_,?_⟩
 ·have e:=hin.val
  rw[Fk,DJ,Db (C6 _),h.val] at e
  rw[e,b8 hi];grind
 ·intro j hj
  rw[hin.same j (by omega)];exact h.zero j (by omega)
theorem uo {l m lo0 lo:List Nat}{i c:Nat} (h:oA l m i lo0) (hi:i<l.length) (hin:TIn lo0 m (nth l i) i m.length c lo) :
  oA l m (i+1) (lo.set (i+m.length) c):=by
 have hlen:i+m.length<lo.length:=by rw[hin.len,h.len];omega
 have hz:nth lo (i+m.length)=0:=by rw[hin.same _ (C6 _)];exact h.zero _ (C6 _)
 refine⟨by simp[hin.len,h.len],cz hin.dig hin.car,?_,?_⟩
 ·have e:=hin.val
  have e1:=fq (b:=BB) (d:=c) hlen
  rw[hz,Fk,DJ] at e1
  rw[Db (C6 _),h.val] at e
  rw[e1,e,b8 hi];grind
 ·intro j hj
  rw[bI (by omega),hin.same j (by omega)];exact h.zero j (by omega)
theorem xz {l m lo0 lo:List Nat}{i c:Nat} (h:oA l m i lo0) (hin:TIn lo0 m (nth l i) i m.length c lo):nth lo (i+m.length)=0:=by
 rw[hin.same _ (C6 _)];exact h.zero _ (C6 _)
theorem Ak {l m lo:List Nat} (h:oA l m l.length lo):lean lo=ar BB (val BB l*val BB m):=by
 have:=cL bc h.dig
 rw[h.val,Db (C6 _)] at this
 exact this
theorem nlt {l:List Nat}{j:Nat} (hl:∀ d∈l,d<BB) (h:j<l.length):nth l j<1000000000:=dp hl h
def xI (l m lo1:List Nat) (i c c' k':Nat) (lo2:List Nat):Prop:=(c'=c∧k'=i+m.length∧lo2=lo1∧0<c)∨(c'=0∧oA l m (i+1) lo2)
theorem qI {l m lo0 lo:List Nat}{i c:Nat} (h:oA l m i lo0) (hi:i<l.length) (hin:TIn lo0 m (nth l i) i m.length c lo):xI l m lo i c c (i+m.length) lo:=by
 by_cases hc:c=0
 ·subst hc;exact Or.inr ⟨rfl,um h hi hin⟩
 ·exact Or.inl ⟨rfl,rfl,rfl,by omega⟩
theorem xx (va vb:Value) (l m:List Nat) (w:World) (ha:IsU w va l) (hb:IsU w vb m) (hl:∀ x∈l,x<BB) (hm:∀ x∈m,x<BB) (hll:l.length<1000000) (hlm:m.length<1000000) :
  Calls Tryz.prog 194 #[va,vb] w fun e w'=>∃ g cap,e=.returned (.slice (some ⟨g,0,none⟩) (ar BB (val BB l*val BB m)).length cap) ∧
   w.heap.size≤g∧cap=l.length+m.length∧cF w' g cap (ar BB (val BB l*val BB m))∧Below w.heap.size w w':=by
 obtain⟨p,cap,rfl,hlc,hcm,hcell⟩:=ha
 obtain⟨p',cap',rfl,hlc',hcm',hcell'⟩:=hb
 unfold maxLen at hcm hcm'
 go_enter Tryz.func194,Tryz.ntmps194
 go_wp2_with (at_make;refine gi 189 Tryz.underlying189 rfl (.tmp 16) (.tmp 16) rfl _ _ (l.length+m.length) rfl rfl (by simp) (by simp) ?c1 ?_)
 case c1=>omega
 intro w0 hrow hb0 hs0
 have hb1:=hb0 _ _ (Below.refl _ _) (C6 _)
 clear hb0
 go_wp2
 go_loopw [20] (fun s20 wr=>∃ (i:Nat) (lo:List Nat),i≤l.length∧s20=.int .i64 i∧Hid (oA l m i lo)∧Hid (cF wr w.heap.size (l.length+m.length) lo)∧Below w.heap.size w wr) (fun s20 _=>l.length-(intOf s20).toNat)
 case atStart=>exact⟨0,_,Do _,rfl,uq l m,hrow,hb1⟩
 case round =>
  obtain⟨i,lo,hi,rfl,hout,hro,hbw⟩:=hrel
  clear hrow hb1 hs0
  by_cases h0:i<l.length
  ·obtain⟨b,o,rfl,hbb,hc⟩:=hcell (by omega)
   have hc1:=(hbw.cell (p:=⟨b,o+i,none⟩) hbb).trans (hc i h0)
   have hx:=nlt hl h0
   obtain⟨wo,hwo⟩:∃ wo:World,wo=wr:=⟨_,rfl⟩
   subst hwo
   clear hc hcell
   have hlen:=C5 hout.out.len
   go_wp2
   go_loopw [8,27] (fun s8 s27 wr=>∃ (k c:Nat) (lo1:List Nat),k≤m.length∧s8=.int .u64 c∧s27=.int .i64 k∧Hid (TIn lo m (nth l i) i k c lo1)∧Hid (cF wr w.heap.size (l.length+m.length) lo1)∧Below w.heap.size w wr) (fun _ s27 _=>m.length-(intOf s27).toNat)
   case atStart=>exact⟨0,0,lo,Do _,rfl,rfl,xy lo m _ i hout.out.dig,hro,hbw⟩
   case round =>
    obtain⟨k,c,lo1,hk,rfl,rfl,hin,hro1,hbw1⟩:=hrel
    clear hc1
    by_cases hk0:k<m.length
    ·obtain⟨b',o',rfl,hbb',hc'⟩:=hcell' (by omega)
     have hc1':=(hbw1.cell (p:=⟨b',o'+k,none⟩) hbb').trans (hc' k hk0)
     clear hc' hcell'
     have hlen1:i+k<lo1.length:=by rw[hin.out.len,hlen.out];omega
     have hy:=nlt hm hk0
     have hc8:c<1000000000:=hin.out.car
     have hoc:=nlt hin.out.dig hlen1
     have hxy:nth l i*nth m k≤999999999*999999999:=EM (by omega) (by omega)
     have hxy0:0≤(nth l i:Int)*(nth m k:Int):=by omega
     have ho:=hro1.out.cell hlen1
     have hf:=hro1.out.free (i+k)
     go_wp2
     go_roundw
     case rel=>exact⟨k+1,_,_,by omega,by go_num,by go_num,Aj hin.out hk0 (by rw[hlen.out];omega) hx hm,hro1.out.set (i+k) _ _ (by go_num),hbw1.setCell (p:=⟨w.heap.size,i+k,none⟩) (C6 _) _⟩
     case measure=>simp[intOf];omega
    ·have hkm:k=m.length:=by omega
     subst hkm
     clear hk hk0
     have hc8:c<1000000000:=hin.out.car
     go_wp2
     go_loopw [8,11] (fun s8 s11 wq=>∃ (c' k':Nat) (lo2:List Nat),s8=.int .u64 c'∧s11=.int .i64 k'∧k'≤l.length+m.length∧c'≤c∧xI l m lo1 i c c' k' lo2∧Hid (cF wq w.heap.size (l.length+m.length) lo2)∧Below w.heap.size w wq) (fun s8 _ _=>(intOf s8).toNat)
     case atStart=>exact⟨c,i+m.length,lo1,rfl,by go_num,by omega,C6 _,qI hout.out h0 hin.out,hro1,hbw1⟩
     case round =>
      obtain⟨c',k',lo2,rfl,rfl,hk',hcc,hth,hro2,hbw2⟩:=hrel
      rcases hth with ⟨rfl,hkk,rfl,hc0⟩ | ⟨rfl,hend⟩
      ·have hz:=xz hout.out hin.out
       have hlen2:i+m.length<lo2.length:=by rw[hin.out.len,hlen.out];omega
       have ho:=hro2.out.cell hlen2
       rw[hz] at ho
       have hf:=hro2.out.free (i+m.length)
       have hk2:k'=i+m.length:=hkk
       subst hk2
       go_wp2
       go_roundw
       case rel=>exact⟨0,i+m.length+1,_,by go_num,by go_num,by omega,by omega,Or.inr ⟨rfl,uo hout.out h0 hin.out⟩,hro2.out.set (i+m.length) c' _ (by go_num),hbw2.setCell (p:=⟨w.heap.size,i+m.length,none⟩) (C6 _) _⟩
       case measure=>simp[intOf];omega
      ·go_wp2
       go_roundw
       case rel=>exact⟨i+1,lo2,by omega,by go_num,hend,hro2,hbw2⟩
       case measure=>simp[intOf];omega
  ·have:i=l.length:=by omega
   subst this
   clear h0
   have hle:=hro.out.isU
   rw[hout.out.len] at hle
   have hend:=C5 (Ak hout.out)
   go_wp2_with (go_at_call 176;refine (iT _ _ _ lo _ (by exact hle)).mono ?_;rintro e w' ⟨rfl,rfl⟩)
   go_ret
   refine⟨w.heap.size,l.length+m.length,?_,C6 _,rfl,?_,hbw⟩
   ·rw[←hend.out];rfl
   ·rw[←hend.out];exact hro.out.lean
end Go.Proofs.YtnkgbocdpngldaaGreatDoor
namespace Go.Proofs.YtnkgbocdpngldaaGreatDoor.Kn
theorem guess_low {b P U V top u2 ulow vt v2 vlow q r:Nat} (hU:U=(top*b+u2)*P+ulow) (hV:V=(vt*b+v2)*P+vlow) (hvlow:vlow<P)
  (hqr:q*vt+r=top) (hq:q<b) (hvt:1≤vt) (hex:q*v2≤r*b+u2):(q-1)*V≤U:=by
 cases q with
 | zero=>simp
 | succ q =>
  simp only[Fh]
  have h1:(q+1)*(vt*b+v2)≤top*b+u2:=by
   have:(q+1)*(vt*b+v2)=(q+1)*vt*b+(q+1)*v2:=by grind
   have h2:top*b=(q+1)*vt*b+r*b:=by rw[←hqr,D3]
   omega
  have h3:q≤vt*b+v2:=by
   have:1*b≤vt*b:=Di _ hvt
   omega
  have h4:q*(vt*b+v2+1)≤(q+1)*(vt*b+v2):=by
   rw[FB,D3];omega
  have h5:V≤(vt*b+v2+1)*P:=by rw[hV,D3 (vt*b+v2) 1 P];omega
  calc q*V≤q*((vt*b+v2+1)*P):=DE _ h5
   _=q*(vt*b+v2+1)*P:=by rw[Nat.mul_assoc]
   _≤(q+1)*(vt*b+v2)*P:=Di _ h4
   _≤(top*b+u2)*P:=Di _ h1
   _≤U:=by omega
theorem guess_back {b P U V top u2 ulow vt v2 vlow q r:Nat} (hU:U=(top*b+u2)*P+ulow) (hul:ulow<P) (hV:V=(vt*b+v2)*P+vlow)
  (hlt:U<V*b) (hqr:q*vt+r=top) (hb:b≤q∨r*b+u2<q*v2):U<q*V:=by
 rcases hb with hb | hb
 ·have:b*V≤q*V:=Di _ hb
  rw[Dx b V] at this
  omega
 ·have h1:top*b+u2+1≤q*(vt*b+v2):=by
   have:q*(vt*b+v2)=q*vt*b+q*v2:=by grind
   have h2:top*b=q*vt*b+r*b:=by rw[←hqr,D3]
   omega
  have h2:(top*b+u2+1)*P≤q*(vt*b+v2)*P:=Di _ h1
  have h3:q*(vt*b+v2)*P≤q*V:=by
   rw[Nat.mul_assoc];exact DE _ (by omega)
  rw[D3 (top*b+u2) 1 P] at h2
  omega
theorem guess_first {b P U V top u2 ulow vt v2 vlow:Nat} (hU:U=(top*b+u2)*P+ulow) (hul:ulow<P) (hu2:u2<b) (hV:V=(vt*b+v2)*P+vlow)
  (hvt:1≤vt):U<(top / vt+1)*V:=by
 have h1:top+1≤(top / vt+1)*vt:=by
  have:=DT top vt
  have h2:=Eg top (show vt > 0 by omega)
  rw[D3,Dx (top / vt) vt];omega
 have h2:(top+1)*(b*P)≤(top / vt+1)*vt*(b*P):=Di _ h1
 have h3:(top / vt+1)*vt*(b*P)≤(top / vt+1)*V:=by
  rw[Nat.mul_assoc]
  refine DE _ ?_
  have:vt*(b*P)=vt*b*P:=by grind
  rw[hV,D3,this];omega
 have h4:U<(top+1)*(b*P):=by
  have h5:u2+1≤b:=hu2
  have h6:(u2+1)*P≤b*P:=Di _ h5
  have e1:(top+1)*(b*P)=top*b*P+b*P:=by grind
  have e2:(top*b+u2)*P=top*b*P+u2*P:=by grind
  have e3:(u2+1)*P=u2*P+P:=by grind
  omega
 omega
theorem round_fits {M N U V low q W t borrow:Nat} (hlow:low<M) (hbal:W+t*N+q*V*M=U*M+low+borrow*N)
  (hhi:U<(q+1)*V) (ht:borrow≤t):W+(t-borrow)*N+q*V*M=U*M+low∧W+(t-borrow)*N<V*M:=by
 have e:t*N=(t-borrow)*N+borrow*N:=by rw[←D3];congr 1;omega
 have h1:W+(t-borrow)*N+q*V*M=U*M+low:=by omega
 refine⟨h1,?_⟩
 have h2:(U+1)*M≤(q+1)*V*M:=Di _ hhi
 have e2:(U+1)*M=U*M+M:=by grind
 have e3:(q+1)*V*M=q*V*M+V*M:=by grind
 omega
theorem round_back {b M N U V low q W t borrow W2 carry:Nat} (hW:W<N) (hW2:W2<N)  (hVN:V*M≤N) (hbb:borrow≤b)
  (hbal:W+t*N+q*V*M=U*M+low+borrow*N) (hlo:(q-1)*V≤U) (ht:t<borrow)
  (hadd:W2+carry*N=W+V*M):1≤q∧W2+(q-1)*V*M=U*M+low∧W2<V*M∧t+b-borrow+carry=b:=by
 have hq:1≤q:=by
  cases q with
  | zero =>
   have:(t+1)*N≤borrow*N:=Di _ ht
   rw[D3] at this
   omega
  | succ q=>omega
 have e1:q*V*M=(q-1)*V*M+V*M:=by
  obtain⟨p,rfl⟩:∃ p,q=p+1:=⟨q-1,by omega⟩
  simp only[Fh];grind
 have h1:(t+1)*N≤borrow*N:=Di _ ht
 rw[D3] at h1
 have h2:(q-1)*V*M≤U*M:=Di _ hlo
 -- R: the true rest
 obtain⟨R,hR⟩:∃ R,U*M+low=(q-1)*V*M+R:=⟨U*M+low-(q-1)*V*M,by omega⟩
 -- t N + W + V M = R + borrow N
 have h3:W+t*N+V*M=R+borrow*N:=by omega
 have h4:W2+carry*N+t*N=R+borrow*N:=by omega
 have hRlt:R<V*M:=by omega
 have hRN:R<N:=by omega
 have hN:0<N:=by omega
 have h5:W2+(carry+t)*N=R+borrow*N:=by rw[D3];omega
 have h6:carry+t=borrow:=by
  have a1:(W2+(carry+t)*N) / N=carry+t:=by rw[Fs _ _ hN,Ec hW2,D5]
  have a2:(R+borrow*N) / N=borrow:=by rw[Fs _ _ hN,Ec hRN,D5]
  rw[←a1,h5,a2]
 refine⟨hq,?_,?_,?_⟩
 ·rw[h6] at h5;omega
 ·rw[h6] at h5;omega
 ·omega
end Go.Proofs.YtnkgbocdpngldaaGreatDoor.Kn
namespace Go.Proofs.YtnkgbocdpngldaaGreatDoor
open Dg Dc
structure oS (s t:List UInt8) (lo:List Nat):Prop where
 ex:∃ r,s=t++r∧r.all a7=true∧aR r=Dg.val BB lo∧(t≠[]→r.length=9*lo.length)
 dig:∀ d∈lo,d<BB
 few:9*lo.length≤s.length+8
theorem zl (s:List UInt8):oS s s []:=⟨⟨[],by simp,rfl,rfl,fun _=>rfl⟩,by simp,by simp⟩
theorem uV {s t:List UInt8}{lo:List Nat}{k:Nat} (h:oS s t lo) (hk:k=t.length-9) (hne:t≠[]) (hd:(t.drop k).all a7=true) :
  oS s (t.take k) (lo++[aR (t.drop k)]):=by
 obtain⟨r,e1,e2,e3,e4⟩:=h.ex
 have hr:=e4 hne
 have hpos:=Dn.2 hne
 have hlen:(t.drop k).length≤9:=by rw[Dh];omega
 have hlt:aR (t.drop k)<BB:=by
  have h1:=fw _ hd
  have h2:10 ^ (t.drop k).length≤10 ^ 9:=DB (by omega) hlen
  have h3:(10:Nat) ^ 9=BB:=by decide
  omega
 refine⟨⟨t.drop k++r,?_,?_,?_,?_⟩,?_,?_⟩
 ·rw[←DM,Fr];exact e1
 ·rw[Es,hd,e2];rfl
 ·rw[dO,e3,eE,hr]
  have:(10:Nat) ^ (9*lo.length)=BB ^ lo.length:=by rw[Fo];rfl
  rw[this,Dx];omega
 ·intro hk2
  have:k≠0:=by intro e;rw[e] at hk2;simp at hk2
  simp only[Dd,Dh,Dj,DW]
  omega
 ·intro d hd
  rcases DA.1 hd with hd | hd
  ·exact h.dig d hd
  ·simp at hd;subst hd;exact hlt
 ·have:=h.few
  have h5:s.length=t.length+r.length:=by rw[e1];simp
  simp only[Dd,Dj,DW]
  omega
def cA (s:List UInt8):Option Nat:=if s≠[]∧s.all a7=true then some (aR s) else none
theorem B_ {s:List UInt8}{lo:List Nat} (h:oS s [] lo):s.all a7=true∧lean lo=ar BB (aR s):=by
 obtain⟨r,e1,e2,e3,_⟩:=h.ex
 simp only[D7] at e1
 subst e1
 exact⟨e2,by rw[e3];exact cL bc h.dig⟩
theorem qA {s t:List UInt8}{lo:List Nat}{i:Nat} (h:oS s t lo) (hi:i<t.length) (hb:a7 t[i]=false):s.all a7=false:=by
 obtain⟨r,e1,_⟩:=h.ex
 rw[e1,Es]
 have:t.all a7=false:=by
  rw[DU]
  intro ht
  have:=Dq.1 ht t[i] (Dt hi)
  rw[hb] at this;cases this
 rw[this];rfl
structure NIn (t:List UInt8) (k i n:Nat):Prop where
 all:((t.drop k).take (i-k)).all a7=true
 eq:n=aR ((t.drop k).take (i-k))
theorem lF (t:List UInt8) (k:Nat):NIn t k k 0:=⟨by simp,by simp[aR]⟩
theorem jz {t:List UInt8}{k i n:Nat} (h:NIn t k i n) (hk:k=t.length-9) (hi:i≤t.length):n<1000000000:=by
 have h1:=fw _ h.all
 have h2:10 ^ ((t.drop k).take (i-k)).length≤10 ^ 9:=DB (by omega) (by rw[Dy,Dh];omega)
 have h3:(10:Nat) ^ 9=1000000000:=by decide
 rw[h.eq];omega
theorem nI {t:List UInt8}{k i n:Nat} (h:NIn t k i n) (hki:k≤i) (hi:i<t.length) (hd:a7 t[i]=true):NIn t k (i+1) (10*n+(t[i].toNat-48)):=by
 have e:(t.drop k).take (i+1-k)=(t.drop k).take (i-k)++[t[i]]:=by
  rw[show i+1-k=i-k+1 by omega,Eb (by rw[Dh];omega),List.getElem_drop]
  congr 2
  simp only[show k+(i-k)=i by omega]
 refine⟨?_,?_⟩
 ·rw[e,Es,h.all];simp[hd]
 ·rw[e,lU,←h.eq]
theorem qz {t:List UInt8}{k n:Nat} (h:NIn t k t.length n):(t.drop k).all a7=true∧n=aR (t.drop k):=by
 have e:(t.drop k).take (t.length-k)=t.drop k:=Db (by rw[Dh];omega)
 have h1:=h.all
 have h2:=h.eq
 rw[e] at h1 h2
 exact⟨h1,h2⟩
open Go.RowKit Dg Dc
theorem nw {c:UInt8} (h:(c.toNat:Int)<48):a7 c=false:=by simp[a7];omega
theorem nv {c:UInt8} (h:(57:Int)<(c.toNat:Int)):a7 c=false:=by simp[a7];omega
theorem ju {c:UInt8} (h1:¬ (c.toNat:Int)<48) (h2:¬ (57:Int)<(c.toNat:Int)):a7 c=true:=by simp[a7];omega
theorem bJ (s:ByteArray) (k:Nat):(s.extract 0 k).data.toList=s.data.toList.take k:=by simp
theorem jS (s:ByteArray):s.toList=s.data.toList:=by
 exact ByteArray.toList_eq s
def qS (s:ByteArray) (w:World) (e:Ending) (w':World):Prop :=
 (∃ n v,cA s.data.toList=some n∧e=.returned (.tuple #[v,.bool true])∧fB w' w.heap.size v (ar BB n)∧Below w.heap.size w w') ∨
 (cA s.data.toList=none∧e=.returned (.tuple #[.slice none 0 0,.bool false])∧Below w.heap.size w w')
theorem fB.lean {w:World}{base:Nat}{p:Option Addr}{N cap:Nat}{l:List Nat} (h:fB w base (.slice p N cap) l):fB w base (.slice p (Dg.lean l).length cap) (Dg.lean l):=by
 obtain⟨h1,h2⟩:=h
 refine⟨by rw[mv,Er],?_⟩
 have hle:=bK l
 rcases h2 with ⟨h',h0⟩ | ⟨g',cap',cur,e,hb,hg,hn,hm,hs,ht⟩
 ·simp at h'
  obtain⟨rfl,_,rfl⟩:=h'
  refine Or.inl ⟨by rw[show (Dg.lean l).length=0 by omega],by omega⟩
 ·simp at e
  obtain⟨rfl,_,rfl⟩:=e
  refine Or.inr ⟨g',cap,cur,rfl,hb,hg,Df hle hn,hm,hs,?_⟩
  rw[Er] at ht ⊢
  have:List.take (Dg.lean l).length (List.take l.length cur.toList)=fe (Dg.lean l):=by rw[ht,←pO,lD]
  rw[List.take_take,DL hle] at this
  exact this
theorem r_ (s:ByteArray) (w:World) (hs:s.size<100000) :
  Calls Tryz.prog 154 #[.string s] w (qS s w):=by
 by_cases hne:s.data.toList=[]
 ·have hne':s.toList.isEmpty=true:=by rw[jS,hne];rfl
  have HN:=C5 hne
  clear hne
  go_enter Tryz.func154,Tryz.ntmps154
  go_wp2
  go_ret2
  exact Or.inr ⟨by simp[cA,HN.out],rfl,Below.refl _ _⟩
 ·have hne':s.toList.isEmpty=false:=by rw[jS];exact List.isEmpty_eq_false_iff.2 hne
  have HN:=C5 hne
  clear hne
  go_enter Tryz.func154,Tryz.ntmps154
  go_wp2
  go_loopw [0,4] (fun s0 s4 wr=>∃ (t:ByteArray) (lo:List Nat),s0=.string t∧t.size≤s.size∧Hid (oS s.data.toList t.data.toList lo)∧Hid (fB wr w.heap.size s4 lo)∧Below w.heap.size w wr) (fun s0 _ _=>match s0 with | .string t=>t.size | _=>0)
  case atStart=>exact⟨s,[],rfl,C6 _,zl _,World.ownsRow_nil _ _ _ _,Below.refl _ _⟩
  case round =>
   obtain⟨t,lo,rfl,hts,hrel1,hown,hb⟩:=hrel
   by_cases h0:t.size=0
   ·have ht:t.data.toList=[]:=by apply Du;simpa using h0
    have hend:=hrel1.out
    rw[ht] at hend
    have HE:=C5 (B_ hend)
    have ho:=hown.out
    have hu:=ho.isU
    obtain⟨p,cap,rfl,_,_,_⟩:=hu
    clear hend
    go_wp2_with (go_at_call 176;refine (iT _ _ _ lo _ (fB.isU hown.out)).mono ?_;rintro e w' ⟨rfl,rfl⟩)
    go_ret2
    refine Or.inl ⟨aR s.data.toList,_,?_,rfl,?_,hb⟩
    ·unfold cA;rw[if_pos ⟨HN.out,HE.out.1⟩]
    ·rw[←HE.out.2];exact fB.lean hown.out
   ·have htl:t.data.toList.length=t.size:=by simp
    have HTL:=C5 htl
    clear htl
    obtain⟨k,hk⟩:∃ k:Nat,k=t.size-9:=⟨_,rfl⟩
    have HK:=C5 hk
    have hkle:k≤t.size:=by omega
    by_cases h9:9<t.size
    ·have hkI:(t.size:Int)-9=k:=by omega
     clear hk
     have h0n:0<t.size:=by omega
     go_wp2
     go_loopw [6,7] (fun s6 s7 wq=>∃ n i:Nat,s6=.int .u64 n∧s7=.int .i64 i∧k≤i∧i≤t.size∧Hid (NIn t.data.toList k i n)∧wr=wq) (fun _ s7 _=>t.size-(intOf s7).toNat)
     case atStart=>exact⟨0,k,rfl,by go_num,C6 _,hkle,lF _ _,rfl⟩
     case round =>
      obtain⟨n,i,rfl,rfl,hki,hit,hin,rfl⟩:=hrel
      by_cases hi:i<t.size
      ·have hnb:=jz hin.out (by rw[HTL.out];exact HK.out) (by rw[HTL.out];exact hit)
       have hil:i<t.data.toList.length:=by rw[HTL.out];exact hi
       have hbyte:Hid (t.data.toList[i]=t[i]):=rfl
       rcases (by omega:(t[i].toNat:Int)<48∨(57:Int)<(t[i].toNat:Int)∨(48≤(t[i].toNat:Int)∧(t[i].toNat:Int)≤57)) with hc | hc | ⟨hc,hc2⟩
       ·go_wp2
        go_ret2
        refine Or.inr ⟨?_,rfl,hb⟩
        unfold cA;rw[if_neg]
        intro h
        have:=qA hrel1.out hil (by rw[hbyte.out];exact nw hc)
        rw[this] at h;exact absurd h.2 (by simp)
       ·go_wp2
        go_ret2
        refine Or.inr ⟨?_,rfl,hb⟩
        unfold cA;rw[if_neg]
        intro h
        have:=qA hrel1.out hil (by rw[hbyte.out];exact nv hc)
        rw[this] at h;exact absurd h.2 (by simp)
       ·go_wp2
        go_roundw
        case rel =>
         have hst:=nI hin.out hki hil (by rw[hbyte.out];exact ju (by omega) (by omega))
         rw[hbyte.out] at hst
         exact⟨10*n+(t[i].toNat-48),i+1,by go_num,by go_num,by omega,by omega,hst,trivial⟩
        case measure=>simp[intOf];omega
      ·have hit2:i=t.size:=by omega
       subst hit2
       clear hi hit
       have hend:=qz (k:=k) (n:=n) (by rw[HTL.out];exact hin.out)
       have hnb:=jz hin.out (by rw[HTL.out];exact HK.out) (by rw[HTL.out];exact C6 _)
       have HE:=C5 hend
       clear hend
       have hlo:=hrel1.out.few
       have hsl:s.data.toList.length=s.size:=by simp
       rw[hsl] at hlo
       have hbs:=hb.size
       clear hsl
       go_wp2_with (at_builtin;refine fh 189 Tryz.underlying189 rfl (.tmp 42) (.tmp 44) rfl w.heap.size _ lo _ n rfl rfl hown.out rfl (by omega) hbs ?_)
       intro v' w1 hown' hb'
       have hb1:=hb' _ _ hb (C6 _)
       have HO:=C5 hown'
       clear hown' hb'
       go_wp2
       go_roundw
       case rel=>exact⟨_,lo++[n],rfl,by simp;omega,(by unfold Hid;have hst:=uV hrel1.out (by rw[HTL.out];exact HK.out) (by intro e;have:=HTL.out;rw[e] at this;simp at this;omega) HE.out.1;rw[←HE.out.2] at hst;rw[bJ];exact hst),HO,hb1⟩
       case measure=>simp;omega
    ·have hk0:k=0:=by omega
     have HK0:=C5 hk0
     clear hk hk0
     have h0n:0<t.size:=by omega
     go_wp2
     go_loopw [6,7] (fun s6 s7 wq=>∃ n i:Nat,s6=.int .u64 n∧s7=.int .i64 i∧k≤i∧i≤t.size∧Hid (NIn t.data.toList k i n)∧wr=wq) (fun _ s7 _=>t.size-(intOf s7).toNat)
     case atStart=>exact⟨0,k,rfl,by rw[HK0.out];rfl,C6 _,hkle,lF _ _,rfl⟩
     case round =>
      obtain⟨n,i,rfl,rfl,hki,hit,hin,rfl⟩:=hrel
      by_cases hi:i<t.size
      ·have hnb:=jz hin.out (by rw[HTL.out];exact HK.out) (by rw[HTL.out];exact hit)
       have hil:i<t.data.toList.length:=by rw[HTL.out];exact hi
       have hbyte:Hid (t.data.toList[i]=t[i]):=rfl
       rcases (by omega:(t[i].toNat:Int)<48∨(57:Int)<(t[i].toNat:Int)∨(48≤(t[i].toNat:Int)∧(t[i].toNat:Int)≤57)) with hc | hc | ⟨hc,hc2⟩
       ·go_wp2
        go_ret2
        refine Or.inr ⟨?_,rfl,hb⟩
        unfold cA;rw[if_neg]
        intro h
        have:=qA hrel1.out hil (by rw[hbyte.out];exact nw hc)
        rw[this] at h;exact absurd h.2 (by simp)
       ·go_wp2
        go_ret2
        refine Or.inr ⟨?_,rfl,hb⟩
        unfold cA;rw[if_neg]
        intro h
        have:=qA hrel1.out hil (by rw[hbyte.out];exact nv hc)
        rw[this] at h;exact absurd h.2 (by simp)
       ·go_wp2
        go_roundw
        case rel =>
         have hst:=nI hin.out hki hil (by rw[hbyte.out];exact ju (by omega) (by omega))
         rw[hbyte.out] at hst
         exact⟨10*n+(t[i].toNat-48),i+1,by go_num,by go_num,by omega,by omega,hst,trivial⟩
        case measure=>simp[intOf];omega
      ·have hit2:i=t.size:=by omega
       subst hit2
       clear hi hit
       have hend:=qz (k:=k) (n:=n) (by rw[HTL.out];exact hin.out)
       have hnb:=jz hin.out (by rw[HTL.out];exact HK.out) (by rw[HTL.out];exact C6 _)
       have HE:=C5 hend
       clear hend
       have hlo:=hrel1.out.few
       have hsl:s.data.toList.length=s.size:=by simp
       rw[hsl] at hlo
       have hbs:=hb.size
       clear hsl
       go_wp2_with (at_builtin;refine fh 189 Tryz.underlying189 rfl (.tmp 42) (.tmp 44) rfl w.heap.size _ lo _ n rfl rfl hown.out rfl (by omega) hbs ?_)
       intro v' w1 hown' hb'
       have hb1:=hb' _ _ hb (C6 _)
       have HO:=C5 hown'
       clear hown' hb'
       go_wp2
       go_roundw
       case rel=>exact⟨_,lo++[n],rfl,by simp,(by unfold Hid;have hst:=uV hrel1.out (by rw[HTL.out];exact HK.out) (by intro e;have:=HTL.out;rw[e] at this;simp at this;omega) HE.out.1;rw[←HE.out.2] at hst;rw[HK0.out,List.take_zero] at hst;exact hst),HO,hb1⟩
       case measure=>simp;omega
end Go.Proofs.YtnkgbocdpngldaaGreatDoor
