/- Lemmas of this claim. -/
import Derived.Laws.Runes
import Derived.Test.YtnkgbocdpngldaaGreatDoorXGet
import Derived.Test.YtnkgbocdpngldaaGreatDoorXCoef
import Derived.Test.YtnkgbocdpngldaaGreatDoorXRBase
import Derived.Test.YtnkgbocdpngldaaGreatDoorXRNat2
import Derived.Test.YtnkgbocdpngldaaGreatDoorXRDiv
set_option linter.all false
set_option maxRecDepth 100000
set_option maxHeartbeats 8000000
namespace Go.Proofs.YtnkgbocdpngldaaGreatDoor
open Dg Dc
/-! ### texts -/
theorem vM {d:Nat} (h:d<RR):dec (RR+d)=49 :: low 4 d:=by
 have:=jq 4 (RR+d) (by unfold RR;omega)
 rw[this,show (RR+d) / 10 ^ 4=1 from by unfold RR at *;omega,show (RR+d) % 10 ^ 4=d from by unfold RR at *;omega]
 rw[dS (by decide)];rfl
theorem re {l:List Nat}{k:Nat} (hl:∀ d∈l,d<RR) (h0:0<k) (hk:k≤l.length) (hv:0<val RR (l.drop k)):dec (val RR (l.drop (k-1)))=dec (val RR (l.drop k))++low 4 (nth l (k-1)):=by
 have hd:=bP (j:=k-1) hl
 rw[drop_one h0 hk]
 rw[jq 4 (nth l (k-1)+RR*val RR (l.drop k)) (by unfold RR at *;omega)]
 rw[show (nth l (k-1)+RR*val RR (l.drop k)) / 10 ^ 4=val RR (l.drop k) from by unfold RR at *;omega,show (nth l (k-1)+RR*val RR (l.drop k)) % 10 ^ 4=nth l (k-1) from by unfold RR at *;omega]
theorem sV {l:List Nat} (h:0<l.length):val RR (l.drop (l.length-1))=nth l (l.length-1):=by
 rw[drop_one (by omega) (C6 _),Ey];simp[val]
theorem yR {l:List Nat} (hl:CR l) (h:0<l.length):0<nth l (l.length-1):=by
 have hne:l≠[]:=Dn.1 h
 have:=hl.2 hne
 rw[dC l _ (by omega)]
 rw[Fm] at this
 omega
theorem xj {l:List Nat} (hl:CR l) (h:0<l.length):(dec (val RR l)).length=4*(l.length-1)+(dec (nth l (l.length-1))).length:=by
 have key:∀ k,k≤l.length-1→(dec (val RR (l.drop (l.length-1-k)))).length=4*k+(dec (nth l (l.length-1))).length∧0<val RR (l.drop (l.length-1-k)):=by
  intro k
  induction k with
  | zero=>intro _;rw[Nat.sub_zero,sV h];exact⟨by omega,yR hl h⟩
  | succ k ih =>
   intro hk
   obtain⟨i1,i2⟩:=ih (by omega)
   have:=re (l:=l) (k:=l.length-1-k) hl.1 (by omega) (by omega) i2
   rw[show l.length-1-(k+1)=l.length-1-k-1 from by omega]
   rw[this,Dd,ib,i1]
   refine⟨by omega,?_⟩
   rw[drop_one (by omega) (by omega)]
   have:0<RR*val RR (l.drop (l.length-1-k)):=Nat.mul_pos (by decide) i2
   omega
 have:=(key (l.length-1) (C6 _)).1
 rw[Fj,Ek] at this
 exact this
structure mJ (n m:Nat) (s:List UInt8):Prop where
 eq:dec n=(if m=0 then [] else dec m)++s
theorem ri {n:Nat} (h:0<n):mJ n n []:=⟨by rw[if_neg (by omega),DR]⟩
theorem tz {n m:Nat}{s:List UInt8} (h:mJ n m s) (hm:0<m):mJ n (m / 10) (dg (m % 10) :: s):=by
 have he:=h.eq
 rw[if_neg (by omega)] at he
 refine⟨?_⟩
 rw[he]
 by_cases h10:m<10
 ·rw[dS h10,if_pos (by omega),show m % 10=m from by omega];rfl
 ·rw[gZ (by omega),if_neg (by omega),DM];rfl
theorem vO {n:Nat}{s:List UInt8} (h:mJ n 0 s):s=dec n:=by have:=h.eq;simpa using this.symm
/-! ### reading -/
/-- how many digits a text begins with, m at most -/
def c_:List UInt8→Nat→Nat
 | [],_=>0
 | _ :: _,0=>0
 | c :: s,m+1=>if a7 c then c_ s m+1 else 0
theorem dQ:∀ (s:List UInt8) (m:Nat),c_ s m≤m∧c_ s m≤s.length
 | [],m=>by simp[c_]
 | _ :: _,0=>by simp[c_]
 | c :: s,m+1=>by
  rw[c_]
  have:=dQ s m
  split
  ·simp only[Dj];omega
  ·simp
theorem gz:∀ (s:List UInt8) (m:Nat),(s.take (c_ s m)).all a7=true
 | [],m=>by simp[c_]
 | _ :: _,0=>by simp[c_]
 | c :: s,m+1=>by
  rw[c_]
  split
  ·rename_i h
   rw[List.take_succ_cons,Fc,h,gz s m];rfl
  ·rfl
theorem jo:∀ (s:List UInt8) (m i:Nat),i≤c_ s m→(i<c_ s m↔(i<m∧∃ h:i<s.length,a7 s[i]=true))
 | [],m,i,h=>by simp[c_] at *
 | c :: s,0,i,h=>by simp[c_] at *
 | c :: s,m+1,0,h=>by
  rw[c_]
  split
  ·rename_i hc;simp[hc]
  ·rename_i hc;simp[hc]
 | c :: s,m+1,i+1,h=>by
  rw[c_] at h ⊢
  split at h
  ·rename_i hc
   rw[if_pos hc]
   have:=jo s m i (by omega)
   simp only[Dj,C2]
   constructor
   ·intro hi
    obtain⟨a,b,c⟩:=this.1 (by omega)
    exact⟨by omega,by omega,c⟩
   ·rintro⟨a,b,c⟩
    have:=this.2 ⟨by omega,by omega,c⟩
    omega
  ·omega
def cR (s:List UInt8):Nat×List UInt8:=(aR (s.take (c_ s 2001)),s.drop (c_ s 2001))
def bU (s:List UInt8):Rt×List UInt8 :=
 if c_ s 2001=0 then (⟨false,1,1⟩,s)
 else if (cR s).2.head?=some 47∧(cR ((cR s).2.drop 1)).1≠0 then (dW false (cR s).1 (cR ((cR s).2.drop 1)).1,(cR ((cR s).2.drop 1)).2)
 else (⟨false,(cR s).1,1⟩,(cR s).2)
def qE (r:Rt):Rt:=⟨!r.minus&&decide (r.n≠0),r.n,r.d⟩
def bM (s:List UInt8):Rt×List UInt8 :=
 if s.head?=some 45 then (qE (bU (s.drop 1)).1,(bU (s.drop 1)).2)
 else if s.head?=some 43 then bU (s.drop 1) else bU s
def eZ:Rt:=⟨false,0,1⟩
def aP (s:List UInt8):Vl :=
 if (bM s).2=[105] then ⟨eZ,(bM s).1⟩
 else if (bM s).2=[] then ⟨(bM s).1,eZ⟩
 else ⟨(bM s).1,(bM (bM s).2).1⟩
def rOK (s:List UInt8):Bool:=decide (cW (aP s)=s)&&!(dI (aP s).x||dI (aP s).y)
def jX (s:List UInt8):Bool:=rOK s&&decide ((aP s).y.n=0)
def dX (r:Rt):Bool:=decide (r.n≤4096)&&decide (r.d≤4096)
def x_ (s:List UInt8):Bool:=jX s&&(rOK s&&dX (aP s).x&&dX (aP s).y)
structure tg (s t:List UInt8) (lo:List Nat):Prop where
 ex:∃ r,s=t++r∧r.all a7=true∧aR r=Dg.val RR lo∧(t≠[]→r.length=4*lo.length)
 dig:∀ d∈lo,d<RR
 few:4*lo.length≤s.length+3
theorem Bp (s:List UInt8):tg s s []:=⟨⟨[],by simp,rfl,rfl,fun _=>rfl⟩,by simp,by simp⟩
theorem Cn {s t:List UInt8}{lo:List Nat}{k:Nat} (h:tg s t lo) (hk:k=t.length-4) (hne:t≠[]) (hd:(t.drop k).all a7=true) :
  tg s (t.take k) (lo++[aR (t.drop k)]):=by
 obtain⟨r,e1,e2,e3,e4⟩:=h.ex
 have hr:=e4 hne
 have hpos:=Dn.2 hne
 have hlen:(t.drop k).length≤4:=by rw[Dh];omega
 have hlt:aR (t.drop k)<RR:=by
  have h1:=fw _ hd
  have h2:10 ^ (t.drop k).length≤10 ^ 4:=DB (by omega) hlen
  have h3:(10:Nat) ^ 4=RR:=by decide
  omega
 refine⟨⟨t.drop k++r,?_,?_,?_,?_⟩,?_,?_⟩
 ·rw[←DM,Fr];exact e1
 ·rw[Es,hd,e2];rfl
 ·rw[dO,e3,eE,hr]
  have:(10:Nat) ^ (4*lo.length)=RR ^ lo.length:=by rw[Fo];rfl
  rw[this,Dx];omega
 ·intro hk2
  have:k≠0:=by intro e;rw[e] at hk2;simp at hk2
  simp only[Dd,Dh,Dj,DW]
  omega
 ·intro d hd
  rcases DA.1 hd with hd | hd
  ·exact h.dig d hd
  ·simp at hd;subst hd;exact hlt
 ·have:=h.few
  have h5:s.length=t.length+r.length:=by rw[e1];simp
  simp only[Dd,Dj,DW]
  omega
theorem CX {s:List UInt8}{lo:List Nat} (h:tg s [] lo):lean lo=ar RR (aR s):=by
 obtain⟨r,e1,e2,e3,_⟩:=h.ex
 simp only[D7] at e1
 subst e1
 rw[e3];exact cL aD h.dig
theorem zj {t:List UInt8}{k i n:Nat} (h:NIn t k i n) (hk:k=t.length-4) (hi:i≤t.length):n<10000:=by
 have h1:=fw _ h.all
 have h2:10 ^ ((t.drop k).take (i-k)).length≤10 ^ 4:=DB (by omega) (by rw[Dy,Dh];omega)
 have h3:(10:Nat) ^ 4=10000:=by decide
 rw[h.eq];omega
open Go.RowKit Dg Dc
theorem AT {d:Nat} (h:d<10):Utf8.encode (48+(d:Int))=⟨#[dg d]⟩:=by
 match d,h with
 | 0,_=>rfl
 | 1,_=>rfl
 | 2,_=>rfl
 | 3,_=>rfl
 | 4,_=>rfl
 | 5,_=>rfl
 | 6,_=>rfl
 | 7,_=>rfl
 | 8,_=>rfl
 | 9,_=>rfl
theorem mJ.len {n m:Nat}{s:List UInt8} (h:mJ n m s):s.length≤(dec n).length:=by
 rw[h.eq,Dd];omega
theorem iL (n:Nat) (hn:n<1000000000) (w:World) :
  Calls Tryz.prog 172 #[.int .i64 n] w fun e w'=>∃ t:ByteArray,e=.returned (.string t)∧Hid (t.data.toList=dec n)∧w'=w:=by
 have hdl:(dec n).length≤9:=bX (by omega) (by omega)
 by_cases h0:n=0
 ·subst h0
  go_enter Tryz.func172,Tryz.ntmps172
  go_wp2
  go_ret
  exact⟨_,rfl,by unfold Hid;rw[dS (by decide)];rfl,rfl⟩
 ·have hne:((n:Int) == 0)=false:=by simp;omega
  have hlt0:decide ((n:Int)<0)=false:=by simp
  have HP:Hid (0<n):=by unfold Hid;omega
  have HDL:=C5 hdl
  clear h0 hdl
  go_enter Tryz.func172,Tryz.ntmps172
  go_wp2
  go_loop [0,3] (fun s0 s3=>∃ (m:Nat) (t:ByteArray),s0=.int .i64 m∧m≤n∧s3=.string t∧Hid (mJ n m t.data.toList)) (fun s0 _=>(intOf s0).toNat)
  case atStart=>exact⟨n,_,rfl,C6 _,rfl,ri HP.out⟩
  case round =>
   obtain⟨m,t,rfl,hm,rfl,hst⟩:=hrel
   by_cases hm0:m=0
   ·subst hm0
    have hend:=C5 (vO hst.out)
    clear hst hne
    go_wp2
    go_ret
    exact⟨t,rfl,hend.out,rfl⟩
   ·have hmne:((m:Int) != 0)=true:=by simp;omega
    have hts:t.size≤9:=by
     have h1:=hst.out.len
     have h2:=HDL.out
     simp at h1;omega
    have hr:(m:Int).tmod 10=((m % 10:Nat):Int):=by rw[Ed (by omega)];omega
    have hq:(m:Int).tdiv 10=((m / 10:Nat):Int):=by rw[DV (by omega)];omega
    have hlt:decide ((m:Int).tmod 10<0)=false:=by rw[hr];exact decide_eq_false (by omega)
    have hlt2:decide ((m:Int) % 10<0)=false:=decide_eq_false (by omega)
    have hst2:=C5 (tz hst.out (show 0<m by omega))
    have henc:Utf8.encode (48+(m:Int) % 10)=⟨#[dg (m % 10)]⟩:=by
     have:=AT (show m % 10<10 by omega)
     rwa [show ((m % 10:Nat):Int)=(m:Int) % 10 by omega] at this
    clear hst hne
    go_wp2
    go_round
    case rel=>exact⟨m / 10,_,by go_num,by omega,rfl,by unfold Hid;have:=hst2.out;simpa using this⟩
    case measure=>simp[intOf];omega
theorem vN:(dec 0).length=1:=by rw[dS (by decide)];rfl
theorem eC {t:ByteArray}{l:List UInt8} (h:t.data.toList=l):t.size=l.length:=by rw[←h];simp
theorem tY (k:Nat):RR ^ k=10 ^ (4*k):=by rw[Fo];rfl
theorem y9 (v:Value) (n:Nat) (w:World) (hv:IsD w v n) (hf:bO n) :
  Calls Tryz.prog 146 #[v] w fun e w'=>e=.returned (.int .i64 ((dec n).length:Nat))∧w'=w:=by
 obtain⟨p,cap,rfl,hlc,hcm,hcell⟩:=hv
 unfold bO at hf
 unfold maxLen at hcm
 have hcan:=aS n
 have hsz:Hid (0<(ar RR n).length→(dec n).length=4*((ar RR n).length-1)+(dec (nth (ar RR n) ((ar RR n).length-1))).length):=fun h=>by
  have:=xj hcan h
  rwa [aB aD] at this
 have hx:=bP (j:=(ar RR n).length-1) hcan.1
 by_cases h0:(ar RR n).length=0
 ·have hn:n=0:=gR.1 h0
  subst hn
  have hd0:(((ar RR 0).length:Int) == 0)=true:=by rw[h0];rfl
  rw[vN]
  clear hcell hx h0
  go_enter Tryz.func146,Tryz.ntmps146
  go_wp2
  go_ret
  exact⟨rfl,rfl⟩
 ·obtain⟨b,o,rfl,hb,hc⟩:=hcell (by omega)
  have hc1:=hc ((ar RR n).length-1) (by omega)
  rw[hsz.out (by omega)]
  obtain⟨x,hxe⟩:∃ x,x=nth (ar RR n) ((ar RR n).length-1):=⟨_,rfl⟩
  rw[←hxe] at hc1 hx ⊢
  rw[fP] at hx
  have hd1:(dec x).length≤4:=bX (by omega) (by omega)
  obtain⟨N,hN⟩:∃ N,N=(ar RR n).length:=⟨_,rfl⟩
  rw[←hN] at hc1 h0 hlc hf ⊢
  have hd0:((N:Int) == 0)=false:=by simp;omega
  clear hcell hc hxe hN hsz hcan
  go_enter Tryz.func146,Tryz.ntmps146
  go_wp2_with fail
  refine (iL x (by omega) w).mono ?_
  rintro e w' ⟨t,rfl,ht,rfl⟩
  have hts:t.size=(dec x).length:=eC ht.out
  obtain⟨L,hL⟩:∃ L,L=(dec x).length:=⟨_,rfl⟩
  rw[←hL] at hts hd1
  have HL:=C5 hL
  have hfin:Hid (4*((N:Int)-1)+(L:Int)=((4*(N-1)+L:Nat):Int)):=by unfold Hid;omega
  clear hL
  go_wp2_with fail
  go_ret
  refine⟨?_,rfl⟩
  rw[←HL.out,←hfin.out]
  rfl
theorem yc {l:List Nat} (hl:∀ d∈l,d<RR) (hf:l.length<100000) (k:Nat):(dec (val RR (l.drop k))).length≤400004:=by
 have h1:=fg RR (l.drop k) (fun d hd=>hl d (El hd))
 rw[tY] at h1
 have h2:=bX (k:=4*(l.drop k).length+1) (by omega) (C8 h1 (DB (by omega) (by omega)))
 rw[Dh] at h2
 omega
theorem yq {l:List Nat} (hl:CR l) {k:Nat} (hk:k<l.length):0<val RR (l.drop k):=by
 have hc:CR (l.drop k):=by
  refine⟨fun d hd=>hl.1 d (El hd),fun hne=>?_⟩
  rw[List.getLast_drop]
  exact hl.2 (Dn.1 (by omega))
 have hne:l.drop k≠[]:=Dn.1 (by rw[Dh];omega)
 have:=eD hc hne
 have h4:0<RR ^ ((l.drop k).length-1):=EV (by decide)
 omega
theorem tA (v:Value) (n:Nat) (w:World) (hv:IsD w v n) (hf:bO n) :
  Calls Tryz.prog 171 #[v] w fun e w'=>∃ t:ByteArray,e=.returned (.string t)∧Hid (t.data.toList=dec n)∧t.size≤400004∧w'=w:=by
 obtain⟨p,cap,rfl,hlc,hcm,hcell⟩:=hv
 unfold bO at hf
 unfold maxLen at hcm
 have hcan:=C5 (aS n)
 have hval:=C5 (aB aD n)
 obtain⟨l,hle⟩:∃ l,l=ar RR n:=⟨_,rfl⟩
 rw[←hle] at hcan hval hcell hlc hf ⊢
 by_cases h0:l.length=0
 ·have hn:n=0:=by rw[hle] at h0;exact gR.1 h0
  subst hn
  have hd0:((l.length:Int) == 0)=true:=by rw[h0];rfl
  clear hcell h0 hle
  go_enter Tryz.func171,Tryz.ntmps171
  go_wp2
  go_ret
  exact⟨_,rfl,by unfold Hid;rw[dS (by decide)];rfl,by decide,rfl⟩
 ·clear hle
  obtain⟨b,o,rfl,hb,hc⟩:=hcell (by omega)
  have HC:=C5 hc
  have hc1:=hc (l.length-1) (by omega)
  have hx:=bP (j:=l.length-1) hcan.out.1
  rw[fP] at hx
  have hxv:Hid (val RR (l.drop (l.length-1))=nth l (l.length-1)):=sV (by omega)
  obtain⟨x,hxe⟩:∃ x,x=nth l (l.length-1):=⟨_,rfl⟩
  rw[←hxe] at hc1 hx hxv
  have hd0:((l.length:Int) == 0)=false:=by simp;intro e;rw[e] at h0;exact h0 rfl
  have HP:0<l.length:=by omega
  have hsz:=C5 (fun k=>yc hcan.out.1 hf k)
  clear hcell hc hxe h0
  go_enter Tryz.func171,Tryz.ntmps171
  go_wp2_with fail
  refine (iL x (by omega) w).mono ?_
  rintro e w' ⟨t0,rfl,ht0,rfl⟩
  go_wp2_with fail
  go_loop [3,4] (fun s3 s4=>∃ (k:Nat) (t:ByteArray),k<l.length∧s3=.string t∧s4=.int .i64 ((k:Int)-1)∧Hid (t.data.toList=dec (val RR (l.drop k)))) (fun _ s4=>(intOf s4+1).toNat)
  case atStart=>exact⟨l.length-1,t0,by omega,rfl,by go_num,by unfold Hid;rw[hxv.out];exact ht0.out⟩
  case round =>
   clear hc1
   obtain⟨k,t,hk,rfl,rfl,ht⟩:=hrel
   have hts:t.size≤400004:=by
    have h1:=eC ht.out
    have h2:=hsz.out k
    omega
   by_cases hk0:k=0
   ·subst hk0
    go_wp2
    go_ret
    exact⟨t,rfl,by have:=ht.out;rw[Ek,hval.out] at this;exact this,hts,rfl⟩
   ·have hge:decide ((0:Int)≤(k:Int)-1)=true:=by simp;omega
    have hc2:=HC.out (k-1) (by omega)
    have hy:=bP (j:=k-1) hcan.out.1
    have hstep:Hid (dec (val RR (l.drop (k-1)))=dec (val RR (l.drop k))++low 4 (nth l (k-1))):=re hcan.out.1 (by omega) (by omega) (yq hcan.out hk)
    have hrad:Hid (dec (RR+nth l (k-1))=49 :: low 4 (nth l (k-1))):=vM hy
    rw[fP] at hy hrad
    obtain⟨y,hye⟩:∃ y,y=nth l (k-1):=⟨_,rfl⟩
    rw[←hye] at hc2 hy hstep hrad
    clear hye
    go_wp2_with fail
    refine (iL (10000+y) (by omega) _).mono ?_
    rintro e w2 ⟨t2,rfl,ht2,rfl⟩
    have ht2l:=ht2.out
    rw[hrad.out] at ht2l
    have hs2:t2.size=5:=by have:=eC ht2l;rw[Dj,ib] at this;exact this
    have HT2:=C5 ht2l
    clear ht2l hc2
    go_wp2
    go_round
    case rel=>exact⟨k-1,_,by omega,rfl,by go_num,by
     have h1:=HT2.out
     unfold Hid
     rw[hstep.out,←ht.out]
     simp[h1]
     exact Db (by rw[ib];omega)⟩
    case measure=>simp[intOf];omega
structure gS (r:Rt):Prop where
 pos:0<r.d
 gcd:Nat.gcd r.n r.d=1
 sign:r.minus=true→r.n≠0
theorem mQ {mi:Bool}{n d:Nat} (h:0<d):gS (dW mi n d):=by
 unfold dW
 split
 ·exact⟨by decide,by decide,fun h=>by cases h⟩
 ·rename_i hn
  have hg:0<Nat.gcd n d:=EQ _ h
  refine⟨Nat.div_pos (FM _ h) hg,?_,fun _=>?_⟩
  ·rw[Nat.gcd_div (Nat.gcd_dvd_left ..) (Nat.gcd_dvd_right ..),Nat.div_self hg]
  have:0<n / Nat.gcd n d:=Nat.div_pos (Nat.le_of_dvd (by omega) (Nat.gcd_dvd_left ..)) hg
  show n / Nat.gcd n d≠0
  omega
theorem mP (n:Nat):gS ⟨false,n,1⟩:=⟨Nat.one_pos,Nat.gcd_one_right n,fun h=>by cases h⟩
theorem xU {r:Rt} (h:gS r):gS (qE r):=⟨h.pos,h.gcd,fun hm=>by unfold qE at hm;simp at hm;exact hm.2⟩
theorem lq (s:List UInt8):gS (bU s).1:=by
 unfold bU
 split
 ·exact mP 1
 ·split
  ·rename_i h;exact mQ (by have:=h.2;omega)
  ·exact mP _
theorem jk (s:List UInt8):gS (bM s).1:=by
 unfold bM
 split
 ·exact xU (lq _)
 ·split<;>exact lq _
theorem oX:gS eZ:=mP 0
theorem gw (s:List UInt8):gS (aP s).x∧gS (aP s).y:=by
 unfold aP
 split
 ·exact⟨oX,jk _⟩
 ·split
  ·exact⟨jk _,oX⟩
  ·exact⟨jk _,jk _⟩
theorem q9 {s:List UInt8}{r:Rt} (h:cQ s=some r):gS r:=by
 unfold cQ at h
 split at h
 ·cases h
 ·split at h
  ·split at h
   ·cases h
   ·split at h
    ·cases h
    ·rename_i h0;injection h with h;subst h;exact mQ (by omega)
  ·injection h with h;subst h;exact mQ (by decide)
theorem qF {r:Rt} (h:gS r):dW r.minus r.n r.d=r:=by
 obtain⟨m,n,d⟩:=r
 have h1:=h.pos
 have h2:=h.gcd
 have h3:=h.sign
 simp only at h1 h2 h3 ⊢
 unfold dW
 rw[h2,FS,FS]
 split
 ·rename_i h0
  subst h0
  rw[Fn] at h2
  cases m
  ·rw[h2]
  ·exact absurd rfl (h3 rfl)
 ·rfl
/-! ### texts of digits -/
theorem rf (n:Nat):∃ c r,dec n=c :: r∧a7 c=true:=by
 cases h:dec n with
 | nil=>exact absurd h (fD n)
 | cons c r =>
  have:=eR n
  rw[h,Fc,Da] at this
  exact⟨c,r,rfl,this.1⟩
theorem qg {c:UInt8} (h:a7 c=true):c≠43∧c≠45∧c≠47∧c≠105:=by
 unfold a7 at h
 simp only[Da,decide_eq_true_eq] at h
 refine⟨?_,?_,?_,?_⟩<;>(intro e;subst e;revert h;decide)
theorem q_:∀ (l t:List UInt8) (m:Nat),l.all a7=true→l.length≤m→(∀ c,t.head?=some c→a7 c=false)→c_ (l++t) m=l.length
 | [],[],m,_,_,_=>by simp[c_]
 | [],c :: t,0,_,_,_=>by simp[c_]
 | [],c :: t,m+1,_,_,h=>by
  have:=h c rfl
  simp[c_,this]
 | c :: l,t,0,_,h,_=>by simp at h
 | c :: l,t,m+1,ha,hl,h=>by
  rw[Fc,Da] at ha
  rw[Ei,c_,if_pos ha.1,q_ l t m ha.2 (by simpa using hl) h];rfl
theorem nR {n:Nat}{t:List UInt8} (hl:(dec n).length≤2001) (h:∀ c,t.head?=some c→a7 c=false):cR (dec n++t)=(n,t)∧c_ (dec n++t) 2001=(dec n).length:=by
 have e:=q_ (dec n) t 2001 (eR n) hl h
 refine⟨?_,e⟩
 unfold cR
 rw[e,FP,List.drop_left',kf]<;>rfl
def gW (r:Rt):List UInt8:=dec r.n++(if 1<r.d then 47 :: dec r.d else [])
theorem jB (r:Rt):aT r=(if r.minus then [45] else [])++gW r:=by unfold aT gW;rw[DM]
theorem q8 {r:Rt} (h:dI r=false):(dec r.n).length≤2000∧(dec r.d).length≤2000:=by
 unfold dI at h
 simp only[Fa,decide_eq_false_iff_not] at h
 omega
theorem qW (r:Rt):∃ c t,gW r=c :: t∧a7 c=true:=by
 obtain⟨c,t,h1,h2⟩:=rf r.n
 exact⟨c,t++_,by unfold gW;rw[h1];rfl,h2⟩
theorem wW {r:Rt} (h:gS r) (hb:dI r=false):bU (gW r)=(⟨false,r.n,r.d⟩,[]):=by
 obtain⟨h1,h2⟩:=q8 hb
 have hp:=fC r.n
 have hpos:=h.pos
 unfold gW
 split
 ·rename_i hd
  obtain⟨e1,e2⟩:=nR (n:=r.n) (t:=47 :: dec r.d) (by omega) (fun c hc=>by simp at hc;subst hc;decide)
  obtain⟨e3,_⟩:=nR (n:=r.d) (t:=[]) (by omega) (fun c hc=>by cases hc)
  rw[DR] at e3
  unfold bU
  rw[e2,if_neg (by omega),e1]
  simp only[FO,List.drop_one,List.tail_cons]
  rw[e3,if_pos ⟨by simp,by show r.d≠0;omega⟩]
  have:=qF (r:=⟨false,r.n,r.d⟩) ⟨h.pos,h.gcd,fun h=>by cases h⟩
  rw[this]
 ·rename_i hd
  obtain⟨e1,e2⟩:=nR (n:=r.n) (t:=[]) (by omega) (fun c hc=>by cases hc)
  rw[show r.d=1 by omega]
  unfold bU
  rw[e2,if_neg (by omega),e1]
  rfl
theorem tZ {r:Rt} (h:gS r) (hb:dI r=false):bM (aT r)=(r,[]):=by
 rw[jB]
 have hp:=wW h hb
 obtain⟨c,t,e1,e2⟩:=qW r
 obtain⟨m,n,d⟩:=r
 cases m
 ·simp only[DI,if_false,D7]
  obtain⟨n1,n2,_⟩:=qg e2
  unfold bM
  rw[e1] at hp ⊢
  simp only[FO,Option.some.injEq]
  rw[if_neg n2,if_neg n1];exact hp
 ·simp only[if_true]
  have hs:=h.sign rfl
  simp only at hs
  unfold bM
  simp only[Ei,D7,FO,if_true,List.drop_one,List.tail_cons]
  rw[hp]
  unfold qE
  simp[hs]
theorem nS {r:Rt} (h:gS r) (hb:dI r=false):aP (aT r)=⟨r,eZ⟩:=by
 unfold aP
 rw[tZ h hb]
 simp
theorem io {z:Vl} (h:z.y.n=0):cW z=aT z.x:=by unfold cW;rw[if_pos h]
/-! ### the program's reading of such a text -/
theorem oF {l:List UInt8}{c d:UInt8} (h:c≠d):Lib.hasSuffix (l++[c]) [d]=false:=by
 unfold Lib.hasSuffix
 rw[DU]
 intro he
 rw[List.isSuffixOf_iff_suffix] at he
 obtain⟨t,ht⟩:=he
 have:=List.append_inj_right' ht rfl
 simp at this
 exact h this.symm
theorem rh (n:Nat):∃ l c,dec n=l++[c]∧a7 c=true:=by
 have hne:=fD n
 have:=Fz hne
 exact⟨_,_,this.symm,Dq.1 (eR n) _ (List.getLast_mem hne)⟩
theorem xw (r:Rt):∃ l c,aT r=l++[c]∧a7 c=true:=by
 rw[jB]
 unfold gW
 by_cases hd:1<r.d
 all_goals first | rw[if_pos hd] | rw[if_neg hd]
 ·obtain⟨l,c,h1,h2⟩:=rh r.d
  exact⟨(if r.minus then [45] else [])++(dec r.n++47 :: l),c,by rw[h1];simp only[DM,Ei],h2⟩
 ·obtain⟨l,c,h1,h2⟩:=rh r.n
  exact⟨(if r.minus then [45] else [])++l,c,by rw[h1];simp only[DM,DR],h2⟩
theorem tX (r:Rt):fL (aT r)=(aT r,[48]):=by
 obtain⟨l,c,h1,h2⟩:=xw r
 have:Lib.hasSuffix (aT r) [105]=false:=by rw[h1];exact oF (qg h2).2.2.2
 unfold fL
 rw[this];rfl
theorem nO (c d:UInt8) (l:List UInt8):Lib.hasPrefix (c :: l) [d]=decide (c=d):=by
 unfold Lib.hasPrefix
 rw[D6,FH]
 simp[List.cons_prefix_cons,eq_comm]
theorem pN (r:Rt):Lib.trimPrefix (aT r) [45]=gW r∧Lib.hasPrefix (aT r) [45]=r.minus:=by
 rw[jB]
 obtain⟨c,t,e1,e2⟩:=qW r
 unfold Lib.trimPrefix
 cases r.minus
 ·simp only[DI,if_false,D7]
  rw[e1,nO,decide_eq_false (qg e2).2.1]
  exact⟨rfl,rfl⟩
 ·simp only[if_true,Ei,D7]
  rw[nO,decide_eq_true rfl]
  exact⟨rfl,rfl⟩
theorem qB {s:List UInt8}{d:UInt8}{i:Nat}:Lib.occAt s [d] i=true↔s[i]?=some d:=by
 unfold Lib.occAt
 rw[FH]
 constructor
 ·rintro⟨t,ht⟩
  have:(s.drop i)[0]?=some d:=by rw[←ht];rfl
  rw[Fg] at this
  simpa using this
 ·intro h
  obtain⟨hi,e⟩:=De.1 h
  exact⟨s.drop (i+1),by rw[DD hi,e];rfl⟩
theorem kj {s:List UInt8}{d:UInt8} (h:d∉s):Lib.index s [d]=-1:=by
 refine Lib.index_none (fun j _=>?_)
 rw[DU]
 intro he
 exact h (Eu (qB.1 he))
theorem pi {l t:List UInt8}{d:UInt8} (h:d∉l):Lib.index (l++d :: t) [d]=l.length:=by
 refine Lib.index_first (by simp) (qB.2 (by simp)) (fun j hj=>?_)
 rw[DU]
 intro he
 have:=qB.1 he
 rw[DF hj] at this
 exact h (Eu this)
theorem iX {l:List UInt8} (h:l.all a7=true):(47:UInt8)∉l:=fun hm=>(qg (Dq.1 h _ hm)).2.2.1 rfl
theorem iW (n:Nat):cA (dec n)=some n:=by
 unfold cA
 rw[if_pos ⟨fD n,eR n⟩,kf]
theorem so {r:Rt} (h:gS r):cQ (aT r)=some r:=by
 obtain⟨e1,e2⟩:=pN r
 have hpos:=h.pos
 unfold cQ
 rw[e1,e2]
 unfold gW Lib.cut
 by_cases hd:1<r.d
 all_goals first | rw[if_pos hd] | rw[if_neg hd]
 ·rw[pi (iX (eR r.n)),if_pos (by omega)]
  simp only[Dr]
  rw[FP rfl,iW]
  simp only[if_true]
  have:(dec r.n++47 :: dec r.d).drop ((dec r.n).length+([47]:List UInt8).length)=dec r.d:=by simp[List.drop_append]
  rw[this,iW]
  simp only
  rw[if_neg (by omega),qF h]
 ·rw[DR,kj (iX (eR r.n)),if_neg (by omega)]
  simp only
  rw[iW]
  simp only[DI,if_false]
  have hd1:r.d=1:=by omega
  have:=qF h
  rw[hd1] at this
  rw[this]
theorem Ah {r:Rt} (hb:dI r=false):(aT r).length≤4002:=by
 obtain⟨h1,h2⟩:=q8 hb
 rw[jB]
 unfold gW
 rw[Dd,Dd]
 split<;>split<;>simp<;>omega
theorem yC {r:Rt} (h:gS r) (hb:dI r=false):iQ (aT r)=some ⟨r,eZ⟩:=by
 have hl:=Ah hb
 unfold iQ
 rw[if_neg (by omega),tX,so h]
 simp only
 rw[me]
 simp only
 rw[if_pos ⟨io rfl,hb,jA⟩];rfl
theorem zG (s:List UInt8):(iZ s=true↔∃ r,gS r∧dI r=false∧s=aT r)∧(jX s=true↔∃ r,gS r∧dI r=false∧s=aT r):=by
 refine⟨⟨fun h=>?_,?_⟩,⟨fun h=>?_,?_⟩⟩
 ·unfold iZ at h
  cases hg:iQ s with
  | none=>rw[hg] at h;cases h
  | some z =>
   rw[hg] at h
   have hy:=of_decide_eq_true h
   unfold iQ at hg
   split at hg
   ·cases hg
   ·split at hg
    ·rename_i p q hp hq
     split at hg
     ·rename_i hc
      injection hg with hg
      subst hg
      refine⟨p,q9 hp,hc.2.1,?_⟩
      rw[←hc.1]
      exact io hy
     ·cases hg
    ·cases hg
 ·rintro⟨r,h1,h2,rfl⟩
  unfold iZ
  rw[yC h1 h2];rfl
 ·unfold jX rOK at h
  simp only[Da,decide_eq_true_eq,EP,Fa] at h
  exact⟨(aP s).x,(gw s).1,h.1.2.1,by rw[←io h.2];exact h.1.1.symm⟩
 ·rintro⟨r,h1,h2,rfl⟩
  unfold jX rOK
  rw[nS h1 h2,io rfl]
  simp[h2,jA,show dI eZ=false from jA,show eZ.n=0 from rfl]
/-! ### short parts -/
theorem rd (c:UInt8) (l:List UInt8):aR (c :: l)=(c.toNat-48)*10 ^ l.length+aR l:=by
 have:=dO [c] l
 rw[List.singleton_append] at this
 rw[this]
 simp[aR]
theorem nM:∀ (l:List UInt8) (acc:Nat),l.all a7=true→acc<18446744073709551616 →
  Lib.parseUint10 acc l=if acc*10 ^ l.length+aR l<18446744073709551616 then .ok (acc*10 ^ l.length+aR l) else .range
 | [],acc,_,h=>by simp[Lib.parseUint10,aR,h]
 | c :: l,acc,ha,h=>by
  rw[Fc,Da] at ha
  have hc:48≤c.toNat∧c.toNat≤57:=by have:=ha.1;unfold a7 at this;simpa using this
  have e:acc*10 ^ (c :: l).length+aR (c :: l)=(acc*10+(c.toNat-48))*10 ^ l.length+aR l:=by
   rw[rd,Dj,Dp];grind
  have hpow:0<10 ^ l.length:=EV (by decide)
  have hge:acc*10+(c.toNat-48)≤(acc*10+(c.toNat-48))*10 ^ l.length:=Nat.le_mul_of_pos_right _ hpow
  rw[Lib.parseUint10,if_pos hc,e]
  split
  ·rw[if_neg (by omega)]
  ·split
   ·rw[if_neg (by omega)]
   ·exact nM l _ ha.2 (by omega)
theorem sq (n:Nat):gH (dec n)=decide (n≤4096):=by
 obtain⟨c,t,e1,e2⟩:=rf n
 have hc:48≤c.toNat∧c.toNat≤57:=by have:=e2;unfold a7 at this;simpa using this
 have hp:=nM (dec n) 0 (eR n) (by decide)
 rw[kf,Fk,D5] at hp
 unfold gH Lib.atoiAll
 rw[e1]
 simp only
 rw[if_neg (by omega),←e1]
 unfold Lib.parseMag
 rw[if_neg (fD n),hp]
 by_cases h1:n<18446744073709551616
 ·rw[if_pos h1]
  simp only
  have hn:¬ c.toNat=45:=by omega
  by_cases h2:9223372036854775808≤n
  ·simp[hn,h2];omega
  ·simp[hn,h2];omega
 ·rw[if_neg h1]
  simp
  omega
theorem xl (r:Rt) (h:0<r.d):(eM ⟨(gW r).toArray⟩).all (fun p=>gH p.data.toList)=dX r:=by
 have e:(eM ⟨(gW r).toArray⟩).all (fun p=>gH p.data.toList)=(Lib.splitK [47] 0 (Lib.count (gW r) [47]) (gW r)).all gH:=by
  have:=Lib.splitB_data ⟨#[47]⟩ 0 (Lib.countB ⟨(gW r).toArray⟩ ⟨#[47]⟩) ⟨(gW r).toArray⟩
  have e2:Lib.countB ⟨(gW r).toArray⟩ ⟨#[47]⟩=Lib.count (gW r) [47]:=by unfold Lib.countB;simp
  rw[e2] at this
  unfold eM
  rw[e2]
  simp only[List.toList_toArray] at this
  rw[←this,List.all_map];rfl
 rw[e]
 unfold gW dX
 split
 ·have h1:=pi (t:=dec r.d) (iX (eR r.n))
  have h2:=kj (iX (eR r.d))
  have e3:(dec r.n++47 :: dec r.d).drop ((dec r.n).length+([47]:List UInt8).length)=dec r.d:=by simp[List.drop_append]
  rw[Lib.count_hit (by simp) h1,e3,Lib.count_miss h2]
  show (Lib.splitK [47] 0 (0+1) _).all gH=_
  rw[Lib.splitK,if_neg (by rw[h1];simp),h1]
  simp only[Dr,DJ]
  rw[e3,FP rfl]
  simp[Lib.splitK,sq]
 ·rw[DR,Lib.count_miss (kj (iX (eR r.n)))]
  simp only[Lib.splitK,Fc,List.all_nil,Bool.and_true,sq]
  rw[show r.d=1 by omega];simp
theorem AP (s:List UInt8):x_ s=dz s:=by
 obtain⟨h1,h2⟩:=zG s
 unfold x_ dz
 by_cases hr:∃ r,gS r∧dI r=false∧s=aT r
 ·rw[h1.2 hr,h2.2 hr]
  obtain⟨r,c1,c2,rfl⟩:=hr
  have hok:rOK (aT r)=true:=by
   have:=h2.2 ⟨r,c1,c2,rfl⟩
   unfold jX at this
   rw[Da] at this
   exact this.1
  rw[hok,nS c1 c2]
  unfold kq
  rw[(pN r).1,xl r c1.pos]
  simp[show dX eZ=true by decide]
 ·rw[show iZ s=false by rw[DU];exact fun h=>hr (h1.1 h),show jX s=false by rw[DU];exact fun h=>hr (h2.1 h)]
  rfl
open Go.RowKit Dg
def IsQ (w:World) (v:Value) (r:Rt):Prop:=∃ vn vd,v=.agg #[.bool r.minus,vn,.bool false,vd]∧IsD w vn r.n∧IsD w vd r.d
theorem IsQ.below {w w':World}{v:Value}{r:Rt} (h:IsQ w v r) (hb:Below w.heap.size w w'):IsQ w' v r:=by
 obtain⟨vn,vd,e,h1,h2⟩:=h
 exact⟨vn,vd,e,h1.below hb,h2.below hb⟩
theorem IsQ.puts {w w':World}{b:Nat}{t t0:TypeId}{us cs:Array Value}{v:Value}{r:Rt} (hv:IsQ w v r) (h:dR w w' b t us) (hr:w.heap[b]?=some (.cells cs t0 (0,0))) (hn:∀ (j:Nat) (z:Int),cs[j]?≠some (Value.int .i64 z)):IsQ w' v r:=by
 obtain⟨vn,vd,e,h1,h2⟩:=hv
 exact⟨vn,vd,e,h.isI hr hn h1,h.isI hr hn h2⟩
theorem IsQ.parts {w:World}{v:Value}{r:Rt} (h:IsQ w v r):∃ p N c p' N' c',v=.agg #[.bool r.minus,.slice p N c,.bool false,.slice p' N' c']∧Hid (N=(ar RR r.n).length)∧N≤c∧c≤maxLen∧Hid (N'=(ar RR r.d).length)∧N'≤c'∧c'≤maxLen∧IsD w (.slice p N c) r.n∧IsD w (.slice p' N' c') r.d:=by
 obtain⟨vn,vd,rfl,h1,h2⟩:=h
 obtain⟨p,N,c,rfl,a,b,d⟩:=h1.parts
 obtain⟨p',N',c',rfl,a',b',d'⟩:=h2.parts
 exact⟨p,N,c,p',N',c',rfl,a,b,d,a',b',d',h1,h2⟩
theorem tK {w:World}{p:Option Addr}{N c n:Nat}{m:Bool} (h:IsD w (.slice p N c) n) (hm:m=true→n≠0):IsZ w (.agg #[.bool m,.slice p N c]) (sgn m n):=by
 refine⟨_,?_,by rw[jD];exact h⟩
 rw[uZ]
 cases m
 ·rfl
 ·have:=hm rfl
  rw[decide_eq_true (by omega:0<n)];rfl
theorem jv {w:World}{p:Option Addr}{N c n:Nat} (h:IsD w (.slice p N c) n):IsZ w (.agg #[.bool false,.slice p N c]) (n:Int):=tK (m:=false) h (fun h=>by cases h)
theorem IsZ.nat {w:World}{v:Value}{n:Nat} (h:IsZ w v (n:Int)):∃ p N c,v=.agg #[.bool false,.slice p N c]∧Hid (N=(ar RR n).length)∧N≤c∧c≤maxLen∧IsD w (.slice p N c) n:=by
 obtain⟨p,N,c,rfl,h1,h2,h3,h4⟩:=h.parts
 rw[D8] at h1 h4
 exact⟨p,N,c,by rw[show decide ((n:Int)<0)=false by simp],h1,h2,h3,h4⟩
theorem Bc (va vb:Value) (n d:Nat) (w:World) (ha:IsZ w va (n:Int)) (hb:IsZ w vb (d:Int)) (hd0:0<d) (hfn:bO n) (hfd:bO d) :
  Calls Tryz.prog 144 #[va,vb] w fun e w'=>∃ v,e=.returned v∧IsQ w' v (dW false n d)∧Below w.heap.size w w':=by
 obtain⟨p,N,c,rfl,hN,hNc,hcm,hd⟩:=ha.nat
 obtain⟨p',N',c',rfl,hN',hNc',hcm',hd'⟩:=hb.nat
 have hl:=pp w (.cells #[.bool false,.slice p N c] 171) (.cells #[.bool false,.slice p' N' c'] 171) (.cells #[.bool false,.slice none 0 0,.bool false,.slice none 0 0] 173)
 have hgp:0<Nat.gcd n d:=EQ _ hd0
 have HFG:Hid (bO (Nat.gcd n d)):=hfd.mono (Nat.le_of_dvd hd0 (Nat.gcd_dvd_right ..))
 have HFN:=C5 hfn
 have HFD:=C5 hfd
 have HR:Hid (dW false n d=⟨false,n / Nat.gcd n d,d / Nat.gcd n d⟩):=by
  unfold Hid dW
  split
  ·rename_i h;subst h;rw[Fn,Nat.zero_div,Nat.div_self hd0]
  ·rfl
 have x0:=aa hl.s0 0
 have x1:=aa hl.s0 1
 have y0:=aa hl.s1 0
 have y1:=aa hl.s1 1
 have HD:=C5 (hd.below hl.below)
 have HD':=C5 (hd'.below hl.below)
 clear ha hb hd hd' hfn hfd
 go_enter Tryz.func144,Tryz.ntmps144
 go_upto_region 1 with fail
 generalize ((w.alloc (.cells #[.bool false,.slice p N c] 171)).alloc (.cells #[.bool false,.slice p' N' c'] 171)).alloc (.cells #[.bool false,.slice none 0 0,.bool false,.slice none 0 0] 173)=w1 at *
 go_wp2_with fail
 refine (Aw _ _ n d w1 (jv HD.out) (jv HD'.out) HFN.out HFD.out).mono ?_
 rintro e w2 ⟨v2,rfl,hz2,hb2⟩
 rw[D8,D8] at hz2
 obtain⟨p2,N2,c2,rfl,hN2,hNc2,hcm2,hd2⟩:=hz2.nat
 have hl2:=bL w2 (.cells #[.bool false,.slice p2 N2 c2] 171)
 have hb3:=hb2.trans (hl2.below.mono hb2.size)
 have HB3:=hl.below.trans (hb3.mono hl.below.size)
 have r0:=(hb3.block _ (ae hl.s0)).trans hl.s0
 have r1:=(hb3.block _ (ae hl.s1)).trans hl.s1
 have r2:=(hb3.block _ (ae hl.s2)).trans hl.s2
 have r3:=hl2.s0
 have hsz:=hl2.size
 have HG:=C5 (hd2.below hl2.below)
 have HD3:=C5 (HD.out.below hb3)
 have HE3:=C5 (HD'.out.below hb3)
 clear hl hl2 hb2 hb3 hz2 hd2 x0 x1 y0 y1 HD HD'
 have a0:=aa r0 1
 have a1:=aa r3 1
 go_upto_region 4 with fail
 generalize w2.alloc (.cells #[.bool false,.slice p2 N2 c2] 171)=w3 at *
 go_wp2_with fail
 refine (kh _ _ n (Nat.gcd n d) w3 HD3.out HG.out hgp HFN.out HFG.out).mono ?_
 rintro e w4 ⟨v4,v4',rfl,hq,_,hb4⟩
 have hlt3:w2.heap.size<w3.heap.size:=by omega
 have s1:=(hb4.block _ (ae r1)).trans r1
 have s2:=(hb4.block _ (ae r2)).trans r2
 have s3:=(hb4.block _ (ae r3)).trans r3
 have s0:=(hb4.block _ (ae r0)).trans r0
 have HG4:=C5 (HG.out.below hb4)
 have HE4:=C5 (HE3.out.below hb4)
 have HQ4:=C5 hq
 have HB4:=HB3.trans (hb4.mono HB3.size)
 clear r0 r1 r2 r3 a0 a1 HB3 hb4 HD3 HE3 HG hq
 have a1:=aa s1 1
 have a3:=aa s3 1
 have a0:=aa s0 0
 go_wp2_with fail
 refine (kh _ _ d (Nat.gcd n d) w4 HE4.out HG4.out hgp HFD.out HFG.out).mono ?_
 rintro e w5 ⟨v5,v5',rfl,hq5,_,hb5⟩
 have s0':=(hb5.block _ (ae s0)).trans s0
 have s2':=(hb5.block _ (ae s2)).trans s2
 have HQ5:=C5 (HQ4.out.below hb5)
 have HP5:=C5 hq5
 have HB5:=HB4.trans (hb5.mono HB4.size)
 clear s0 s1 s2 s3 a0 a1 a3 HB4 hb5 HQ4 HG4 HE4 hq5
 have a0:=aa s0' 0
 go_wp2_with fail
 refine (ew _ _ _ w5 HQ5.out (aS _).1).mono ?_
 rintro e w6 ⟨v6,rfl,hz6,hb6⟩
 rw[aB aD] at hz6
 obtain⟨p6,N6,c6,rfl,hN6,hNc6,hcm6,hd6⟩:=hz6.nat
 have HP6:=C5 (HP5.out.below hb6)
 have t2:=(hb6.block _ (ae s2')).trans s2'
 have HB6:=HB5.trans (hb6.mono HB5.size)
 have HD6:=C5 hd6
 clear a0 s0' s2' HP5 HQ5 HB5 hb6 hz6 hd6
 go_wp2_with fail
 refine (ew _ _ _ w6 HP6.out (aS _).1).mono ?_
 rintro e w7 ⟨v7,rfl,hz7,hb7⟩
 rw[aB aD] at hz7
 obtain⟨p7,N7,c7,rfl,hN7,hNc7,hcm7,hd7⟩:=hz7.nat
 have u2:=(hb7.block _ (ae t2)).trans t2
 have HB7:=HB6.trans (hb7.mono HB6.size)
 have hP:=cM (u0:=.bool false) (u1:=.slice p6 N6 c6) (u2:=.bool false) (u3:=.slice p7 N7 c7) u2
 have hZ:Hid (IsQ (gc w7 (w.heap.size+1+1) (.bool false) (.slice p6 N6 c6) (.bool false) (.slice p7 N7 c7)) (.agg #[.bool false,.slice p6 N6 c6,.bool false,.slice p7 N7 c7]) (dW false n d)):=by
  rw[HR.out]
  exact⟨_,_,rfl,hP.isI u2 du (HD6.out.below hb7),hP.isI u2 du hd7⟩
 have hB:=HB7.trans (hP.below w.heap.size (by omega))
 have q0:=aa u2 0
 have q1:=aa u2 1
 have q2:=aa u2 2
 have q3:=aa u2 3
 have f0:=frozen_of_row w7 (w.heap.size+1+1) 0 _ _ u2
 have f1:=frozen_of_row w7 (w.heap.size+1+1) 1 _ _ u2
 have f2:=frozen_of_row w7 (w.heap.size+1+1) 2 _ _ u2
 have f3:=frozen_of_row w7 (w.heap.size+1+1) 3 _ _ u2
 clear t2 HP6 HB6 hb7 hz7 hd7 HD6
 go_wp2_with fail
 (try simp only[Exit.inBlock,Exit.then])
 change bodyPost _ _ _ _ _ (gc w7 (w.heap.size+1+1) (.bool false) (.slice p6 N6 c6) (.bool false) (.slice p7 N7 c7))
 refine bodyPost_ret (results_cell_row rfl _ _ (w.heap.size+1+1) _ _ (0,0) _ rfl hP.row Tryz.underlying173 rfl (by kernel_rfl)) rfl ?_
 exact⟨_,rfl,hZ.out,hB⟩
end Go.Proofs.YtnkgbocdpngldaaGreatDoor
