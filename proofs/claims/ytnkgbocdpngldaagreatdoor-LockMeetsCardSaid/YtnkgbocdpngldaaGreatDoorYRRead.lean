/-
  Texts of this claim: RRead, RT1, RLaw, RQ2.
-/
import Derived.Laws.Runes
import Derived.Test.YtnkgbocdpngldaaGreatDoorYGet
import Derived.Test.YtnkgbocdpngldaaGreatDoorYCoef
import Derived.Test.YtnkgbocdpngldaaGreatDoorYRBase
import Derived.Test.YtnkgbocdpngldaaGreatDoorYRNat2
import Derived.Test.YtnkgbocdpngldaaGreatDoorYRDiv
import Derived.Test.YtnkgbocdpngldaaGreatDoorYA
set_option linter.unusedVariables false
set_option linter.unusedSimpArgs false
set_option maxRecDepth 100000
set_option maxHeartbeats 8000000

namespace Go.Proofs.YtnkgbocdpngldaaGreatDoor
open Dg Dc
/-! ### texts -/
theorem vK {d:Nat} (h:d<RR):dec (RR+d)=49 :: low 4 d:=by
 have:=jl 4 (RR+d) (by unfold RR;omega)
 rw [this,show (RR+d) / 10 ^ 4=1 from by unfold RR at *;omega,show (RR+d) % 10 ^ 4=d from by unfold RR at *;omega]
 rw [dM (by decide)];rfl
theorem q9 {l:List Nat} {k:Nat} (hl:∀ d∈l,d<RR) (h0:0<k) (hk:k≤l.length) (hv:0<val RR (l.drop k)):dec (val RR (l.drop (k-1)))=dec (val RR (l.drop k))++low 4 (nth l (k-1)):=by
 have hd:=bM (j:=k-1) hl
 rw [drop_one h0 hk]
 rw [jl 4 (nth l (k-1)+RR*val RR (l.drop k)) (by unfold RR at *;omega)]
 rw [show (nth l (k-1)+RR*val RR (l.drop k)) / 10 ^ 4=val RR (l.drop k) from by unfold RR at *;omega,show (nth l (k-1)+RR*val RR (l.drop k)) % 10 ^ 4=nth l (k-1) from by unfold RR at *;omega]
theorem sU {l:List Nat} (h:0<l.length):val RR (l.drop (l.length-1))=nth l (l.length-1):=by
 rw [drop_one (by omega) (CZ _),Eu];simp [val]
theorem yL {l:List Nat} (hl:CR l) (h:0<l.length):0<nth l (l.length-1):=by
 have hne:l≠[]:=Dl.1 h
 have:=hl.2 hne
 rw [dz l _ (by omega)]
 rw [E9] at this
 omega
theorem w_ {l:List Nat} (hl:CR l) (h:0<l.length):(dec (val RR l)).length=4*(l.length-1)+(dec (nth l (l.length-1))).length:=by
 have key:∀ k,k≤l.length-1→(dec (val RR (l.drop (l.length-1-k)))).length=4*k+(dec (nth l (l.length-1))).length∧0<val RR (l.drop (l.length-1-k)):=by
  intro k
  induction k with
  | zero=>intro _;rw [Nat.sub_zero,sU h];exact ⟨by omega,yL hl h⟩
  | succ k ih =>
   intro hk
   obtain ⟨i1,i2⟩:=ih (by omega)
   have:=q9 (l:=l) (k:=l.length-1-k) hl.1 (by omega) (by omega) i2
   rw [show l.length-1-(k+1)=l.length-1-k-1 from by omega]
   rw [this,C7,gZ,i1]
   refine ⟨by omega,?_⟩
   rw [drop_one (by omega) (by omega)]
   have:0<RR*val RR (l.drop (l.length-1-k)):=Nat.mul_pos (by decide) i2
   omega
 have:=(key (l.length-1) (CZ _)).1
 rw [EF,Ee] at this
 exact this
structure mA (n m:Nat) (s:List UInt8):Prop where
 eq:dec n=(if m=0 then [] else dec m)++s
theorem rd {n:Nat} (h:0<n):mA n n []:=⟨by rw [if_neg (by omega),DU]⟩
theorem tv {n m:Nat} {s:List UInt8} (h:mA n m s) (hm:0<m):mA n (m / 10) (dg (m % 10) :: s):=by
 have he:=h.eq
 rw [if_neg (by omega)] at he
 refine ⟨?_⟩
 rw [he]
 by_cases h10:m<10
 ·rw [dM h10,if_pos (by omega),show m % 10=m from by omega];rfl
 ·rw [iF (by omega),if_neg (by omega),DJ];rfl
theorem vM {n:Nat} {s:List UInt8} (h:mA n 0 s):s=dec n:=by have:=h.eq;simpa using this.symm
/-! ### reading -/
/-- how many digits a text begins with, m at most -/
def cX:List UInt8→Nat→Nat
 | [],_=>0
 | _ :: _,0=>0
 | c :: s,m+1=>if aZ c then cX s m+1 else 0
theorem dL:∀ (s:List UInt8) (m:Nat),cX s m≤m∧cX s m≤s.length
 | [],m=>by simp [cX]
 | _ :: _,0=>by simp [cX]
 | c :: s,m+1=>by
  rw [cX]
  have:=dL s m
  split
  ·simp only [De];omega
  ·simp
theorem gw:∀ (s:List UInt8) (m:Nat),(s.take (cX s m)).all aZ=true
 | [],m=>by simp [cX]
 | _ :: _,0=>by simp [cX]
 | c :: s,m+1=>by
  rw [cX]
  split
  ·rename_i h
   rw [List.take_succ_cons,EU,h,gw s m];rfl
  ·rfl
theorem jk:∀ (s:List UInt8) (m i:Nat),i≤cX s m→(i<cX s m↔(i<m∧∃ h:i<s.length,aZ s[i]=true))
 | [],m,i,h=>by simp [cX] at *
 | c :: s,0,i,h=>by simp [cX] at *
 | c :: s,m+1,0,h=>by
  rw [cX]
  split
  ·rename_i hc;simp [hc]
  ·rename_i hc;simp [hc]
 | c :: s,m+1,i+1,h=>by
  rw [cX] at h ⊢
  split at h
  ·rename_i hc
   rw [if_pos hc]
   have:=jk s m i (by omega)
   simp only [De,CV]
   constructor
   ·intro hi
    obtain ⟨a,b,c⟩:=this.1 (by omega)
    exact ⟨by omega,by omega,c⟩
   ·rintro ⟨a,b,c⟩
    have:=this.2 ⟨by omega,by omega,c⟩
    omega
  ·omega
def cR (s:List UInt8):Nat×List UInt8:=(aM (s.take (cX s 2001)),s.drop (cX s 2001))
def bR (s:List UInt8):Rt×List UInt8 :=
 if cX s 2001=0 then (⟨false,1,1⟩,s)
 else if (cR s).2.head?=some 47∧(cR ((cR s).2.drop 1)).1≠0 then (dP false (cR s).1 (cR ((cR s).2.drop 1)).1,(cR ((cR s).2.drop 1)).2)
 else (⟨false,(cR s).1,1⟩,(cR s).2)
def qB (r:Rt):Rt:=⟨!r.minus&&decide (r.n≠0),r.n,r.d⟩
def bL (s:List UInt8):Rt×List UInt8 :=
 if s.head?=some 45 then (qB (bR (s.drop 1)).1,(bR (s.drop 1)).2)
 else if s.head?=some 43 then bR (s.drop 1) else bR s
def eU:Rt:=⟨false,0,1⟩
def aL (s:List UInt8):Vl :=
 if (bL s).2=[105] then ⟨eU,(bL s).1⟩
 else if (bL s).2=[] then ⟨(bL s).1,eU⟩
 else ⟨(bL s).1,(bL (bL s).2).1⟩
def rOK (s:List UInt8):Bool:=decide (cW (aL s)=s)&&!(dE (aL s).x||dE (aL s).y)
def jV (s:List UInt8):Bool:=rOK s&&decide ((aL s).y.n=0)
def dR (r:Rt):Bool:=decide (r.n≤4096)&&decide (r.d≤4096)
def xU (s:List UInt8):Bool:=jV s&&(rOK s&&dR (aL s).x&&dR (aL s).y)
structure tg (s t:List UInt8) (lo:List Nat):Prop where
 ex:∃ r,s=t++r∧r.all aZ=true∧aM r=Dg.val RR lo∧(t≠[]→r.length=4*lo.length)
 dig:∀ d∈lo,d<RR
 few:4*lo.length≤s.length+3
theorem Bi (s:List UInt8):tg s s []:=⟨⟨[],by simp,rfl,rfl,fun _=>rfl⟩,by simp,by simp⟩
theorem Cg {s t:List UInt8} {lo:List Nat} {k:Nat} (h:tg s t lo) (hk:k=t.length-4) (hne:t≠[]) (hd:(t.drop k).all aZ=true) :
  tg s (t.take k) (lo++[aM (t.drop k)]):=by
 obtain ⟨r,e1,e2,e3,e4⟩:=h.ex
 have hr:=e4 hne
 have hpos:=Dl.2 hne
 have hlen:(t.drop k).length≤4:=by rw [C_];omega
 have hlt:aM (t.drop k)<RR:=by
  have h1:=ft _ hd
  have h2:10 ^ (t.drop k).length≤10 ^ 4:=Dr (by omega) hlen
  have h3:(10:Nat) ^ 4=RR:=by decide
  omega
 refine ⟨⟨t.drop k++r,?_,?_,?_,?_⟩,?_,?_⟩
 ·rw [←DJ,Fg];exact e1
 ·rw [Er,hd,e2];rfl
 ·rw [dK,e3,er,hr]
  have:(10:Nat) ^ (4*lo.length)=RR ^ lo.length:=by rw [Fb];rfl
  rw [this,Dx];omega
 ·intro hk2
  have:k≠0:=by intro e;rw [e] at hk2;simp at hk2
  simp only [C7,C_,De,D6]
  omega
 ·intro d hd
  rcases Dv.1 hd with hd | hd
  ·exact h.dig d hd
  ·simp at hd;subst hd;exact hlt
 ·have:=h.few
  have h5:s.length=t.length+r.length:=by rw [e1];simp
  simp only [C7,De,D6]
  omega
theorem CQ {s:List UInt8} {lo:List Nat} (h:tg s [] lo):lean lo=au RR (aM s):=by
 obtain ⟨r,e1,e2,e3,_⟩:=h.ex
 simp only [D8] at e1
 subst e1
 rw [e3];exact cJ aG h.dig
theorem y9 {t:List UInt8} {k i n:Nat} (h:NIn t k i n) (hk:k=t.length-4) (hi:i≤t.length):n<10000:=by
 have h1:=ft _ h.all
 have h2:10 ^ ((t.drop k).take (i-k)).length≤10 ^ 4:=Dr (by omega) (by rw [Dy,C_];omega)
 have h3:(10:Nat) ^ 4=10000:=by decide
 rw [h.eq];omega
end Go.Proofs.YtnkgbocdpngldaaGreatDoor

namespace Go.Proofs.YtnkgbocdpngldaaGreatDoor
open Go.RowKit Dg Dc
theorem AJ {d:Nat} (h:d<10):Utf8.encode (48+(d:Int))=⟨#[dg d]⟩:=by
 match d,h with
 | 0,_=>rfl
 | 1,_=>rfl
 | 2,_=>rfl
 | 3,_=>rfl
 | 4,_=>rfl
 | 5,_=>rfl
 | 6,_=>rfl
 | 7,_=>rfl
 | 8,_=>rfl
 | 9,_=>rfl
theorem mA.len {n m:Nat} {s:List UInt8} (h:mA n m s):s.length≤(dec n).length:=by
 rw [h.eq,C7];omega
theorem iH (n:Nat) (hn:n<1000000000) (w:World) :
  Calls Tryz.prog 172 #[.int .i64 n] w fun e w'=>∃ t:ByteArray,e=.returned (.string t)∧Hid (t.data.toList=dec n)∧w'=w:=by
 have hdl:(dec n).length≤9:=bT (by omega) (by omega)
 by_cases h0:n=0
 ·subst h0
  go_enter Tryz.func172,Tryz.ntmps172
  go_wp2
  go_ret
  exact ⟨_,rfl,by unfold Hid;rw [dM (by decide)];rfl,rfl⟩
 ·have hne:((n:Int) == 0)=false:=by simp;omega
  have hlt0:decide ((n:Int)<0)=false:=by simp
  have HP:Hid (0<n):=by unfold Hid;omega
  have HDL:=CX hdl
  clear h0 hdl
  go_enter Tryz.func172,Tryz.ntmps172
  go_wp2
  go_loop [0,3] (fun s0 s3=>∃ (m:Nat) (t:ByteArray),s0=.int .i64 m∧m≤n∧s3=.string t∧Hid (mA n m t.data.toList)) (fun s0 _=>(intOf s0).toNat)
  case atStart=>exact ⟨n,_,rfl,CZ _,rfl,rd HP.out⟩
  case round =>
   obtain ⟨m,t,rfl,hm,rfl,hst⟩:=hrel
   by_cases hm0:m=0
   ·subst hm0
    have hend:=CX (vM hst.out)
    clear hst hne
    go_wp2
    go_ret
    exact ⟨t,rfl,hend.out,rfl⟩
   ·have hmne:((m:Int) != 0)=true:=by simp;omega
    have hts:t.size≤9:=by
     have h1:=hst.out.len
     have h2:=HDL.out
     simp at h1;omega
    have hr:(m:Int).tmod 10=((m % 10:Nat):Int):=by rw [Ed (by omega)];omega
    have hq:(m:Int).tdiv 10=((m / 10:Nat):Int):=by rw [DS (by omega)];omega
    have hlt:decide ((m:Int).tmod 10<0)=false:=by rw [hr];exact decide_eq_false (by omega)
    have hlt2:decide ((m:Int) % 10<0)=false:=decide_eq_false (by omega)
    have hst2:=CX (tv hst.out (show 0<m by omega))
    have henc:Utf8.encode (48+(m:Int) % 10)=⟨#[dg (m % 10)]⟩:=by
     have:=AJ (show m % 10<10 by omega)
     rwa [show ((m % 10:Nat):Int)=(m:Int) % 10 by omega] at this
    clear hst hne
    go_wp2
    go_round
    case rel=>exact ⟨m / 10,_,by go_num,by omega,rfl,by unfold Hid;have:=hst2.out;simpa using this⟩
    case measure=>simp [intOf];omega
theorem vL:(dec 0).length=1:=by rw [dM (by decide)];rfl
theorem ej {t:ByteArray} {l:List UInt8} (h:t.data.toList=l):t.size=l.length:=by rw [←h];simp
theorem tV (k:Nat):RR ^ k=10 ^ (4*k):=by rw [Fb];rfl
theorem yT (v:Value) (n:Nat) (w:World) (hv:IsD w v n) (hf:bH n) :
  Calls Tryz.prog 146 #[v] w fun e w'=>e=.returned (.int .i64 ((dec n).length:Nat))∧w'=w:=by
 obtain ⟨p,cap,rfl,hlc,hcm,hcell⟩:=hv
 unfold bH at hf
 unfold maxLen at hcm
 have hcan:=aO n
 have hsz:Hid (0<(au RR n).length→(dec n).length=4*((au RR n).length-1)+(dec (nth (au RR n) ((au RR n).length-1))).length):=fun h=>by
  have:=w_ hcan h
  rwa [aE aG] at this
 have hx:=bM (j:=(au RR n).length-1) hcan.1
 by_cases h0:(au RR n).length=0
 ·have hn:n=0:=gO.1 h0
  subst hn
  have hd0:(((au RR 0).length:Int) == 0)=true:=by rw [h0];rfl
  rw [vL]
  clear hcell hx h0
  go_enter Tryz.func146,Tryz.ntmps146
  go_wp2
  go_ret
  exact ⟨rfl,rfl⟩
 ·obtain ⟨b,o,rfl,hb,hc⟩:=hcell (by omega)
  have hc1:=hc ((au RR n).length-1) (by omega)
  rw [hsz.out (by omega)]
  obtain ⟨x,hxe⟩:∃ x,x=nth (au RR n) ((au RR n).length-1):=⟨_,rfl⟩
  rw [←hxe] at hc1 hx ⊢
  rw [fN] at hx
  have hd1:(dec x).length≤4:=bT (by omega) (by omega)
  obtain ⟨N,hN⟩:∃ N,N=(au RR n).length:=⟨_,rfl⟩
  rw [←hN] at hc1 h0 hlc hf ⊢
  have hd0:((N:Int) == 0)=false:=by simp;omega
  clear hcell hc hxe hN hsz hcan
  go_enter Tryz.func146,Tryz.ntmps146
  go_wp2_with fail
  refine (iH x (by omega) w).mono ?_
  rintro e w' ⟨t,rfl,ht,rfl⟩
  have hts:t.size=(dec x).length:=ej ht.out
  obtain ⟨L,hL⟩:∃ L,L=(dec x).length:=⟨_,rfl⟩
  rw [←hL] at hts hd1
  have HL:=CX hL
  have hfin:Hid (4*((N:Int)-1)+(L:Int)=((4*(N-1)+L:Nat):Int)):=by unfold Hid;omega
  clear hL
  go_wp2_with fail
  go_ret
  refine ⟨?_,rfl⟩
  rw [←HL.out,←hfin.out]
  rfl
theorem xY {l:List Nat} (hl:∀ d∈l,d<RR) (hf:l.length<100000) (k:Nat):(dec (val RR (l.drop k))).length≤400004:=by
 have h1:=fb RR (l.drop k) (fun d hd=>hl d (Ei hd))
 rw [tV] at h1
 have h2:=bT (k:=4*(l.drop k).length+1) (by omega) (C2 h1 (Dr (by omega) (by omega)))
 rw [C_] at h2
 omega
theorem yf {l:List Nat} (hl:CR l) {k:Nat} (hk:k<l.length):0<val RR (l.drop k):=by
 have hc:CR (l.drop k):=by
  refine ⟨fun d hd=>hl.1 d (Ei hd),fun hne=>?_⟩
  rw [List.getLast_drop]
  exact hl.2 (Dl.1 (by omega))
 have hne:l.drop k≠[]:=Dl.1 (by rw [C_];omega)
 have:=eo hc hne
 have h4:0<RR ^ ((l.drop k).length-1):=EM (by decide)
 omega
theorem tz (v:Value) (n:Nat) (w:World) (hv:IsD w v n) (hf:bH n) :
  Calls Tryz.prog 171 #[v] w fun e w'=>∃ t:ByteArray,e=.returned (.string t)∧Hid (t.data.toList=dec n)∧t.size≤400004∧w'=w:=by
 obtain ⟨p,cap,rfl,hlc,hcm,hcell⟩:=hv
 unfold bH at hf
 unfold maxLen at hcm
 have hcan:=CX (aO n)
 have hval:=CX (aE aG n)
 obtain ⟨l,hle⟩:∃ l,l=au RR n:=⟨_,rfl⟩
 rw [←hle] at hcan hval hcell hlc hf ⊢
 by_cases h0:l.length=0
 ·have hn:n=0:=by rw [hle] at h0;exact gO.1 h0
  subst hn
  have hd0:((l.length:Int) == 0)=true:=by rw [h0];rfl
  clear hcell h0 hle
  go_enter Tryz.func171,Tryz.ntmps171
  go_wp2
  go_ret
  exact ⟨_,rfl,by unfold Hid;rw [dM (by decide)];rfl,by decide,rfl⟩
 ·clear hle
  obtain ⟨b,o,rfl,hb,hc⟩:=hcell (by omega)
  have HC:=CX hc
  have hc1:=hc (l.length-1) (by omega)
  have hx:=bM (j:=l.length-1) hcan.out.1
  rw [fN] at hx
  have hxv:Hid (val RR (l.drop (l.length-1))=nth l (l.length-1)):=sU (by omega)
  obtain ⟨x,hxe⟩:∃ x,x=nth l (l.length-1):=⟨_,rfl⟩
  rw [←hxe] at hc1 hx hxv
  have hd0:((l.length:Int) == 0)=false:=by simp;intro e;rw [e] at h0;exact h0 rfl
  have HP:0<l.length:=by omega
  have hsz:=CX (fun k=>xY hcan.out.1 hf k)
  clear hcell hc hxe h0
  go_enter Tryz.func171,Tryz.ntmps171
  go_wp2_with fail
  refine (iH x (by omega) w).mono ?_
  rintro e w' ⟨t0,rfl,ht0,rfl⟩
  go_wp2_with fail
  go_loop [3,4] (fun s3 s4=>∃ (k:Nat) (t:ByteArray),k<l.length∧s3=.string t∧s4=.int .i64 ((k:Int)-1)∧Hid (t.data.toList=dec (val RR (l.drop k)))) (fun _ s4=>(intOf s4+1).toNat)
  case atStart=>exact ⟨l.length-1,t0,by omega,rfl,by go_num,by unfold Hid;rw [hxv.out];exact ht0.out⟩
  case round =>
   clear hc1
   obtain ⟨k,t,hk,rfl,rfl,ht⟩:=hrel
   have hts:t.size≤400004:=by
    have h1:=ej ht.out
    have h2:=hsz.out k
    omega
   by_cases hk0:k=0
   ·subst hk0
    go_wp2
    go_ret
    exact ⟨t,rfl,by have:=ht.out;rw [Ee,hval.out] at this;exact this,hts,rfl⟩
   ·have hge:decide ((0:Int)≤(k:Int)-1)=true:=by simp;omega
    have hc2:=HC.out (k-1) (by omega)
    have hy:=bM (j:=k-1) hcan.out.1
    have hstep:Hid (dec (val RR (l.drop (k-1)))=dec (val RR (l.drop k))++low 4 (nth l (k-1))):=q9 hcan.out.1 (by omega) (by omega) (yf hcan.out hk)
    have hrad:Hid (dec (RR+nth l (k-1))=49 :: low 4 (nth l (k-1))):=vK hy
    rw [fN] at hy hrad
    obtain ⟨y,hye⟩:∃ y,y=nth l (k-1):=⟨_,rfl⟩
    rw [←hye] at hc2 hy hstep hrad
    clear hye
    go_wp2_with fail
    refine (iH (10000+y) (by omega) _).mono ?_
    rintro e w2 ⟨t2,rfl,ht2,rfl⟩
    have ht2l:=ht2.out
    rw [hrad.out] at ht2l
    have hs2:t2.size=5:=by have:=ej ht2l;rw [De,gZ] at this;exact this
    have HT2:=CX ht2l
    clear ht2l hc2
    go_wp2
    go_round
    case rel=>exact ⟨k-1,_,by omega,rfl,by go_num,by
     have h1:=HT2.out
     unfold Hid
     rw [hstep.out,←ht.out]
     simp [h1]
     exact C6 (by rw [gZ];omega)⟩
    case measure=>simp [intOf];omega
end Go.Proofs.YtnkgbocdpngldaaGreatDoor

namespace Go.Proofs.YtnkgbocdpngldaaGreatDoor
open Dg Dc
structure gP (r:Rt):Prop where
 pos:0<r.d
 gcd:Nat.gcd r.n r.d=1
 sign:r.minus=true→r.n≠0
theorem mH {mi:Bool} {n d:Nat} (h:0<d):gP (dP mi n d):=by
 unfold dP
 split
 ·exact ⟨by decide,by decide,fun h=>by cases h⟩
 ·rename_i hn
  have hg:0<Nat.gcd n d:=EE _ h
  refine ⟨Nat.div_pos (Fy _ h) hg,?_,fun _=>?_⟩
  ·rw [Nat.gcd_div (Nat.gcd_dvd_left ..) (Nat.gcd_dvd_right ..),Nat.div_self hg]
  have:0<n / Nat.gcd n d:=Nat.div_pos (Nat.le_of_dvd (by omega) (Nat.gcd_dvd_left ..)) hg
  show n / Nat.gcd n d≠0
  omega
theorem mG (n:Nat):gP ⟨false,n,1⟩:=⟨Nat.one_pos,Nat.gcd_one_right n,fun h=>by cases h⟩
theorem xN {r:Rt} (h:gP r):gP (qB r):=⟨h.pos,h.gcd,fun hm=>by unfold qB at hm;simp at hm;exact hm.2⟩
theorem kZ (s:List UInt8):gP (bR s).1:=by
 unfold bR
 split
 ·exact mG 1
 ·split
  ·rename_i h;exact mH (by have:=h.2;omega)
  ·exact mG _
theorem ji (s:List UInt8):gP (bL s).1:=by
 unfold bL
 split
 ·exact xN (kZ _)
 ·split<;>exact kZ _
theorem oS:gP eU:=mG 0
theorem gt (s:List UInt8):gP (aL s).x∧gP (aL s).y:=by
 unfold aL
 split
 ·exact ⟨oS,ji _⟩
 ·split
  ·exact ⟨ji _,oS⟩
  ·exact ⟨ji _,ji _⟩
theorem qX {s:List UInt8} {r:Rt} (h:cQ s=some r):gP r:=by
 unfold cQ at h
 split at h
 ·cases h
 ·split at h
  ·split at h
   ·cases h
   ·split at h
    ·cases h
    ·rename_i h0;injection h with h;subst h;exact mH (by omega)
  ·injection h with h;subst h;exact mH (by decide)
theorem qC {r:Rt} (h:gP r):dP r.minus r.n r.d=r:=by
 obtain ⟨m,n,d⟩:=r
 have h1:=h.pos
 have h2:=h.gcd
 have h3:=h.sign
 simp only at h1 h2 h3 ⊢
 unfold dP
 rw [h2,FE,FE]
 split
 ·rename_i h0
  subst h0
  rw [Fa] at h2
  cases m
  ·rw [h2]
  ·exact absurd rfl (h3 rfl)
 ·rfl
/-! ### texts of digits -/
theorem q_ (n:Nat):∃ c r,dec n=c :: r∧aZ c=true:=by
 cases h:dec n with
 | nil=>exact absurd h (fB n)
 | cons c r =>
  have:=eJ n
  rw [h,EU,C5] at this
  exact ⟨c,r,rfl,this.1⟩
theorem pZ {c:UInt8} (h:aZ c=true):c≠43∧c≠45∧c≠47∧c≠105:=by
 unfold aZ at h
 simp only [C5,decide_eq_true_eq] at h
 refine ⟨?_,?_,?_,?_⟩<;>(intro e;subst e;revert h;decide)
theorem qY:∀ (l t:List UInt8) (m:Nat),l.all aZ=true→l.length≤m→(∀ c,t.head?=some c→aZ c=false)→cX (l++t) m=l.length
 | [],[],m,_,_,_=>by simp [cX]
 | [],c :: t,0,_,_,_=>by simp [cX]
 | [],c :: t,m+1,_,_,h=>by
  have:=h c rfl
  simp [cX,this]
 | c :: l,t,0,_,h,_=>by simp at h
 | c :: l,t,m+1,ha,hl,h=>by
  rw [EU,C5] at ha
  rw [Eh,cX,if_pos ha.1,qY l t m ha.2 (by simpa using hl) h];rfl
theorem nK {n:Nat} {t:List UInt8} (hl:(dec n).length≤2001) (h:∀ c,t.head?=some c→aZ c=false):cR (dec n++t)=(n,t)∧cX (dec n++t) 2001=(dec n).length:=by
 have e:=qY (dec n) t 2001 (eJ n) hl h
 refine ⟨?_,e⟩
 unfold cR
 rw [e,FB,List.drop_left',j_]<;>rfl
def gU (r:Rt):List UInt8:=dec r.n++(if 1<r.d then 47 :: dec r.d else [])
theorem jy (r:Rt):aQ r=(if r.minus then [45] else [])++gU r:=by unfold aQ gU;rw [DJ]
theorem qW {r:Rt} (h:dE r=false):(dec r.n).length≤2000∧(dec r.d).length≤2000:=by
 unfold dE at h
 simp only [ES,decide_eq_false_iff_not] at h
 omega
theorem qS (r:Rt):∃ c t,gU r=c :: t∧aZ c=true:=by
 obtain ⟨c,t,h1,h2⟩:=q_ r.n
 exact ⟨c,t++_,by unfold gU;rw [h1];rfl,h2⟩
theorem wP {r:Rt} (h:gP r) (hb:dE r=false):bR (gU r)=(⟨false,r.n,r.d⟩,[]):=by
 obtain ⟨h1,h2⟩:=qW hb
 have hp:=iG r.n
 have hpos:=h.pos
 unfold gU
 split
 ·rename_i hd
  obtain ⟨e1,e2⟩:=nK (n:=r.n) (t:=47 :: dec r.d) (by omega) (fun c hc=>by simp at hc;subst hc;decide)
  obtain ⟨e3,_⟩:=nK (n:=r.d) (t:=[]) (by omega) (fun c hc=>by cases hc)
  rw [DU] at e3
  unfold bR
  rw [e2,if_neg (by omega),e1]
  simp only [FA,List.drop_one,List.tail_cons]
  rw [e3,if_pos ⟨by simp,by show r.d≠0;omega⟩]
  have:=qC (r:=⟨false,r.n,r.d⟩) ⟨h.pos,h.gcd,fun h=>by cases h⟩
  rw [this]
 ·rename_i hd
  obtain ⟨e1,e2⟩:=nK (n:=r.n) (t:=[]) (by omega) (fun c hc=>by cases hc)
  rw [show r.d=1 by omega]
  unfold bR
  rw [e2,if_neg (by omega),e1]
  rfl
theorem tW {r:Rt} (h:gP r) (hb:dE r=false):bL (aQ r)=(r,[]):=by
 rw [jy]
 have hp:=wP h hb
 obtain ⟨c,t,e1,e2⟩:=qS r
 obtain ⟨m,n,d⟩:=r
 cases m
 ·simp only [D9,if_false,D8]
  obtain ⟨n1,n2,_⟩:=pZ e2
  unfold bL
  rw [e1] at hp ⊢
  simp only [FA,Option.some.injEq]
  rw [if_neg n2,if_neg n1];exact hp
 ·simp only [if_true]
  have hs:=h.sign rfl
  simp only at hs
  unfold bL
  simp only [Eh,D8,FA,if_true,List.drop_one,List.tail_cons]
  rw [hp]
  unfold qB
  simp [hs]
theorem nM {r:Rt} (h:gP r) (hb:dE r=false):aL (aQ r)=⟨r,eU⟩:=by
 unfold aL
 rw [tW h hb]
 simp
theorem ik {z:Vl} (h:z.y.n=0):cW z=aQ z.x:=by unfold cW;rw [if_pos h]
/-! ### the program's reading of such a text -/
theorem oC {l:List UInt8} {c d:UInt8} (h:c≠d):Lib.hasSuffix (l++[c]) [d]=false:=by
 unfold Lib.hasSuffix
 rw [D0]
 intro he
 rw [List.isSuffixOf_iff_suffix] at he
 obtain ⟨t,ht⟩:=he
 have:=List.append_inj_right' ht rfl
 simp at this
 exact h this.symm
theorem rc (n:Nat):∃ l c,dec n=l++[c]∧aZ c=true:=by
 have hne:=fB n
 have:=Fo hne
 exact ⟨_,_,this.symm,Dq.1 (eJ n) _ (List.getLast_mem hne)⟩
theorem xi (r:Rt):∃ l c,aQ r=l++[c]∧aZ c=true:=by
 rw [jy]
 unfold gU
 by_cases hd:1<r.d
 all_goals first | rw [if_pos hd] | rw [if_neg hd]
 ·obtain ⟨l,c,h1,h2⟩:=rc r.d
  exact ⟨(if r.minus then [45] else [])++(dec r.n++47 :: l),c,by rw [h1];simp only [DJ,Eh],h2⟩
 ·obtain ⟨l,c,h1,h2⟩:=rc r.n
  exact ⟨(if r.minus then [45] else [])++l,c,by rw [h1];simp only [DJ,DU],h2⟩
theorem tU (r:Rt):fJ (aQ r)=(aQ r,[48]):=by
 obtain ⟨l,c,h1,h2⟩:=xi r
 have:Lib.hasSuffix (aQ r) [105]=false:=by rw [h1];exact oC (pZ h2).2.2.2
 unfold fJ
 rw [this];rfl
theorem nG (c d:UInt8) (l:List UInt8):Lib.hasPrefix (c :: l) [d]=decide (c=d):=by
 unfold Lib.hasPrefix
 rw [D5,Fv]
 simp [List.cons_prefix_cons,eq_comm]
theorem pL (r:Rt):Lib.trimPrefix (aQ r) [45]=gU r∧Lib.hasPrefix (aQ r) [45]=r.minus:=by
 rw [jy]
 obtain ⟨c,t,e1,e2⟩:=qS r
 unfold Lib.trimPrefix
 cases r.minus
 ·simp only [D9,if_false,D8]
  rw [e1,nG,decide_eq_false (pZ e2).2.1]
  exact ⟨rfl,rfl⟩
 ·simp only [if_true,Eh,D8]
  rw [nG,decide_eq_true rfl]
  exact ⟨rfl,rfl⟩
theorem qx {s:List UInt8} {d:UInt8} {i:Nat}:Lib.occAt s [d] i=true↔s[i]?=some d:=by
 unfold Lib.occAt
 rw [Fv]
 constructor
 ·rintro ⟨t,ht⟩
  have:(s.drop i)[0]?=some d:=by rw [←ht];rfl
  rw [EW] at this
  simpa using this
 ·intro h
  obtain ⟨hi,e⟩:=C4.1 h
  exact ⟨s.drop (i+1),by rw [Dz hi,e];rfl⟩
theorem kf {s:List UInt8} {d:UInt8} (h:d∉s):Lib.index s [d]=-1:=by
 refine Lib.index_none (fun j _=>?_)
 rw [D0]
 intro he
 exact h (DO (qx.1 he))
theorem o9 {l t:List UInt8} {d:UInt8} (h:d∉l):Lib.index (l++d :: t) [d]=l.length:=by
 refine Lib.index_first (by simp) (qx.2 (by simp)) (fun j hj=>?_)
 rw [D0]
 intro he
 have:=qx.1 he
 rw [Dd hj] at this
 exact h (DO this)
theorem iT {l:List UInt8} (h:l.all aZ=true):(47:UInt8)∉l:=fun hm=>(pZ (Dq.1 h _ hm)).2.2.1 rfl
theorem iS (n:Nat):cz (dec n)=some n:=by
 unfold cz
 rw [if_pos ⟨fB n,eJ n⟩,j_]
theorem sl {r:Rt} (h:gP r):cQ (aQ r)=some r:=by
 obtain ⟨e1,e2⟩:=pL r
 have hpos:=h.pos
 unfold cQ
 rw [e1,e2]
 unfold gU Lib.cut
 by_cases hd:1<r.d
 all_goals first | rw [if_pos hd] | rw [if_neg hd]
 ·rw [o9 (iT (eJ r.n)),if_pos (by omega)]
  simp only [Dm]
  rw [FB rfl,iS]
  simp only [if_true]
  have:(dec r.n++47 :: dec r.d).drop ((dec r.n).length+([47]:List UInt8).length)=dec r.d:=by simp [List.drop_append]
  rw [this,iS]
  simp only
  rw [if_neg (by omega),qC h]
 ·rw [DU,kf (iT (eJ r.n)),if_neg (by omega)]
  simp only
  rw [iS]
  simp only [D9,if_false]
  have hd1:r.d=1:=by omega
  have:=qC h
  rw [hd1] at this
  rw [this]
theorem Aa {r:Rt} (hb:dE r=false):(aQ r).length≤4002:=by
 obtain ⟨h1,h2⟩:=qW hb
 rw [jy]
 unfold gU
 rw [C7,C7]
 split<;>split<;>simp<;>omega
theorem yw {r:Rt} (h:gP r) (hb:dE r=false):iM (aQ r)=some ⟨r,eU⟩:=by
 have hl:=Aa hb
 unfold iM
 rw [if_neg (by omega),tU,sl h]
 simp only
 rw [lU]
 simp only
 rw [if_pos ⟨ik rfl,hb,jx⟩];rfl
theorem zC (s:List UInt8):(iW s=true↔∃ r,gP r∧dE r=false∧s=aQ r)∧(jV s=true↔∃ r,gP r∧dE r=false∧s=aQ r):=by
 refine ⟨⟨fun h=>?_,?_⟩,⟨fun h=>?_,?_⟩⟩
 ·unfold iW at h
  cases hg:iM s with
  | none=>rw [hg] at h;cases h
  | some z =>
   rw [hg] at h
   have hy:=of_decide_eq_true h
   unfold iM at hg
   split at hg
   ·cases hg
   ·split at hg
    ·rename_i p q hp hq
     split at hg
     ·rename_i hc
      injection hg with hg
      subst hg
      refine ⟨p,qX hp,hc.2.1,?_⟩
      rw [←hc.1]
      exact ik hy
     ·cases hg
    ·cases hg
 ·rintro ⟨r,h1,h2,rfl⟩
  unfold iW
  rw [yw h1 h2];rfl
 ·unfold jV rOK at h
  simp only [C5,decide_eq_true_eq,EN,ES] at h
  exact ⟨(aL s).x,(gt s).1,h.1.2.1,by rw [←ik h.2];exact h.1.1.symm⟩
 ·rintro ⟨r,h1,h2,rfl⟩
  unfold jV rOK
  rw [nM h1 h2,ik rfl]
  simp [h2,jx,show dE eU=false from jx,show eU.n=0 from rfl]
/-! ### short parts -/
theorem q8 (c:UInt8) (l:List UInt8):aM (c :: l)=(c.toNat-48)*10 ^ l.length+aM l:=by
 have:=dK [c] l
 rw [List.singleton_append] at this
 rw [this]
 simp [aM]
theorem nE:∀ (l:List UInt8) (acc:Nat),l.all aZ=true→acc<18446744073709551616 →
  Lib.parseUint10 acc l=if acc*10 ^ l.length+aM l<18446744073709551616 then .ok (acc*10 ^ l.length+aM l) else .range
 | [],acc,_,h=>by simp [Lib.parseUint10,aM,h]
 | c :: l,acc,ha,h=>by
  rw [EU,C5] at ha
  have hc:48≤c.toNat∧c.toNat≤57:=by have:=ha.1;unfold aZ at this;simpa using this
  have e:acc*10 ^ (c :: l).length+aM (c :: l)=(acc*10+(c.toNat-48))*10 ^ l.length+aM l:=by
   rw [q8,De,Dk];grind
  have hpow:0<10 ^ l.length:=EM (by decide)
  have hge:acc*10+(c.toNat-48)≤(acc*10+(c.toNat-48))*10 ^ l.length:=Nat.le_mul_of_pos_right _ hpow
  rw [Lib.parseUint10,if_pos hc,e]
  split
  ·rw [if_neg (by omega)]
  ·split
   ·rw [if_neg (by omega)]
   ·exact nE l _ ha.2 (by omega)
theorem sq (n:Nat):gF (dec n)=decide (n≤4096):=by
 obtain ⟨c,t,e1,e2⟩:=q_ n
 have hc:48≤c.toNat∧c.toNat≤57:=by have:=e2;unfold aZ at this;simpa using this
 have hp:=nE (dec n) 0 (eJ n) (by decide)
 rw [j_,EH,DR] at hp
 unfold gF Lib.atoiAll
 rw [e1]
 simp only
 rw [if_neg (by omega),←e1]
 unfold Lib.parseMag
 rw [if_neg (fB n),hp]
 by_cases h1:n<18446744073709551616
 ·rw [if_pos h1]
  simp only
  have hn:¬ c.toNat=45:=by omega
  by_cases h2:9223372036854775808≤n
  ·simp [hn,h2];omega
  ·simp [hn,h2];omega
 ·rw [if_neg h1]
  simp
  omega
theorem xa (r:Rt) (h:0<r.d):(eF ⟨(gU r).toArray⟩).all (fun p=>gF p.data.toList)=dR r:=by
 have e:(eF ⟨(gU r).toArray⟩).all (fun p=>gF p.data.toList)=(Lib.splitK [47] 0 (Lib.count (gU r) [47]) (gU r)).all gF:=by
  have:=Lib.splitB_data ⟨#[47]⟩ 0 (Lib.countB ⟨(gU r).toArray⟩ ⟨#[47]⟩) ⟨(gU r).toArray⟩
  have e2:Lib.countB ⟨(gU r).toArray⟩ ⟨#[47]⟩=Lib.count (gU r) [47]:=by unfold Lib.countB;simp
  rw [e2] at this
  unfold eF
  rw [e2]
  simp only [List.toList_toArray] at this
  rw [←this,List.all_map];rfl
 rw [e]
 unfold gU dR
 split
 ·have h1:=o9 (t:=dec r.d) (iT (eJ r.n))
  have h2:=kf (iT (eJ r.d))
  have e3:(dec r.n++47 :: dec r.d).drop ((dec r.n).length+([47]:List UInt8).length)=dec r.d:=by simp [List.drop_append]
  rw [Lib.count_hit (by simp) h1,e3,Lib.count_miss h2]
  show (Lib.splitK [47] 0 (0+1) _).all gF=_
  rw [Lib.splitK,if_neg (by rw [h1];simp),h1]
  simp only [Dm,DM]
  rw [e3,FB rfl]
  simp [Lib.splitK,sq]
 ·rw [DU,Lib.count_miss (kf (iT (eJ r.n)))]
  simp only [Lib.splitK,EU,List.all_nil,Bool.and_true,sq]
  rw [show r.d=1 by omega];simp
theorem AF (s:List UInt8):xU s=dx s:=by
 obtain ⟨h1,h2⟩:=zC s
 unfold xU dx
 by_cases hr:∃ r,gP r∧dE r=false∧s=aQ r
 ·rw [h1.2 hr,h2.2 hr]
  obtain ⟨r,c1,c2,rfl⟩:=hr
  have hok:rOK (aQ r)=true:=by
   have:=h2.2 ⟨r,c1,c2,rfl⟩
   unfold jV at this
   rw [C5] at this
   exact this.1
  rw [hok,nM c1 c2]
  unfold kj
  rw [(pL r).1,xa r c1.pos]
  simp [show dR eU=true by decide]
 ·rw [show iW s=false by rw [D0];exact fun h=>hr (h1.1 h),show jV s=false by rw [D0];exact fun h=>hr (h2.1 h)]
  rfl
end Go.Proofs.YtnkgbocdpngldaaGreatDoor

namespace Go.Proofs.YtnkgbocdpngldaaGreatDoor
open Go.RowKit Dg
def IsQ (w:World) (v:Value) (r:Rt):Prop:=∃ vn vd,v=.agg #[.bool r.minus,vn,.bool false,vd]∧IsD w vn r.n∧IsD w vd r.d
theorem IsQ.below {w w':World} {v:Value} {r:Rt} (h:IsQ w v r) (hb:Below w.heap.size w w'):IsQ w' v r:=by
 obtain ⟨vn,vd,e,h1,h2⟩:=h
 exact ⟨vn,vd,e,h1.below hb,h2.below hb⟩
theorem IsQ.puts {w w':World} {b:Nat} {t t0:TypeId} {us cs:Array Value} {v:Value} {r:Rt} (hv:IsQ w v r) (h:ez w w' b t us) (hr:w.heap[b]?=some (.cells cs t0 (0,0))) (hn:∀ (j:Nat) (z:Int),cs[j]?≠some (Value.int .i64 z)):IsQ w' v r:=by
 obtain ⟨vn,vd,e,h1,h2⟩:=hv
 exact ⟨vn,vd,e,h.isI hr hn h1,h.isI hr hn h2⟩
theorem IsQ.parts {w:World} {v:Value} {r:Rt} (h:IsQ w v r):∃ p N c p' N' c',v=.agg #[.bool r.minus,.slice p N c,.bool false,.slice p' N' c']∧Hid (N=(au RR r.n).length)∧N≤c∧c≤maxLen∧Hid (N'=(au RR r.d).length)∧N'≤c'∧c'≤maxLen∧IsD w (.slice p N c) r.n∧IsD w (.slice p' N' c') r.d:=by
 obtain ⟨vn,vd,rfl,h1,h2⟩:=h
 obtain ⟨p,N,c,rfl,a,b,d⟩:=h1.parts
 obtain ⟨p',N',c',rfl,a',b',d'⟩:=h2.parts
 exact ⟨p,N,c,p',N',c',rfl,a,b,d,a',b',d',h1,h2⟩
theorem tJ {w:World} {p:Option Addr} {N c n:Nat} {m:Bool} (h:IsD w (.slice p N c) n) (hm:m=true→n≠0):IsZ w (.agg #[.bool m,.slice p N c]) (sgn m n):=by
 refine ⟨_,?_,by rw [jz];exact h⟩
 rw [u9]
 cases m
 ·rfl
 ·have:=hm rfl
  rw [decide_eq_true (by omega:0<n)];rfl
theorem jq {w:World} {p:Option Addr} {N c n:Nat} (h:IsD w (.slice p N c) n):IsZ w (.agg #[.bool false,.slice p N c]) (n:Int):=tJ (m:=false) h (fun h=>by cases h)
theorem IsZ.nat {w:World} {v:Value} {n:Nat} (h:IsZ w v (n:Int)):∃ p N c,v=.agg #[.bool false,.slice p N c]∧Hid (N=(au RR n).length)∧N≤c∧c≤maxLen∧IsD w (.slice p N c) n:=by
 obtain ⟨p,N,c,rfl,h1,h2,h3,h4⟩:=h.parts
 rw [D_] at h1 h4
 exact ⟨p,N,c,by rw [show decide ((n:Int)<0)=false by simp],h1,h2,h3,h4⟩
theorem A5 (va vb:Value) (n d:Nat) (w:World) (ha:IsZ w va (n:Int)) (hb:IsZ w vb (d:Int)) (hd0:0<d) (hfn:bH n) (hfd:bH d) :
  Calls Tryz.prog 144 #[va,vb] w fun e w'=>∃ v,e=.returned v∧IsQ w' v (dP false n d)∧Below w.heap.size w w':=by
 obtain ⟨p,N,c,rfl,hN,hNc,hcm,hd⟩:=ha.nat
 obtain ⟨p',N',c',rfl,hN',hNc',hcm',hd'⟩:=hb.nat
 have hl:=ni w (.cells #[.bool false,.slice p N c] 171) (.cells #[.bool false,.slice p' N' c'] 171) (.cells #[.bool false,.slice none 0 0,.bool false,.slice none 0 0] 173)
 have hgp:0<Nat.gcd n d:=EE _ hd0
 have HFG:Hid (bH (Nat.gcd n d)):=hfd.mono (Nat.le_of_dvd hd0 (Nat.gcd_dvd_right ..))
 have HFN:=CX hfn
 have HFD:=CX hfd
 have HR:Hid (dP false n d=⟨false,n / Nat.gcd n d,d / Nat.gcd n d⟩):=by
  unfold Hid dP
  split
  ·rename_i h;subst h;rw [Fa,Nat.zero_div,Nat.div_self hd0]
  ·rfl
 have x0:=aa hl.s0 0
 have x1:=aa hl.s0 1
 have y0:=aa hl.s1 0
 have y1:=aa hl.s1 1
 have HD:=CX (hd.below hl.below)
 have HD':=CX (hd'.below hl.below)
 clear ha hb hd hd' hfn hfd
 go_enter Tryz.func144,Tryz.ntmps144
 go_upto_region 1 with fail
 generalize ((w.alloc (.cells #[.bool false,.slice p N c] 171)).alloc (.cells #[.bool false,.slice p' N' c'] 171)).alloc (.cells #[.bool false,.slice none 0 0,.bool false,.slice none 0 0] 173)=w1 at *
 go_wp2_with fail
 refine (An _ _ n d w1 (jq HD.out) (jq HD'.out) HFN.out HFD.out).mono ?_
 rintro e w2 ⟨v2,rfl,hz2,hb2⟩
 rw [D_,D_] at hz2
 obtain ⟨p2,N2,c2,rfl,hN2,hNc2,hcm2,hd2⟩:=hz2.nat
 have hl2:=bo w2 (.cells #[.bool false,.slice p2 N2 c2] 171)
 have hb3:=hb2.trans (hl2.below.mono hb2.size)
 have HB3:=hl.below.trans (hb3.mono hl.below.size)
 have r0:=(hb3.block _ (ac hl.s0)).trans hl.s0
 have r1:=(hb3.block _ (ac hl.s1)).trans hl.s1
 have r2:=(hb3.block _ (ac hl.s2)).trans hl.s2
 have r3:=hl2.s0
 have hsz:=hl2.size
 have HG:=CX (hd2.below hl2.below)
 have HD3:=CX (HD.out.below hb3)
 have HE3:=CX (HD'.out.below hb3)
 clear hl hl2 hb2 hb3 hz2 hd2 x0 x1 y0 y1 HD HD'
 have a0:=aa r0 1
 have a1:=aa r3 1
 go_upto_region 4 with fail
 generalize w2.alloc (.cells #[.bool false,.slice p2 N2 c2] 171)=w3 at *
 go_wp2_with fail
 refine (kc _ _ n (Nat.gcd n d) w3 HD3.out HG.out hgp HFN.out HFG.out).mono ?_
 rintro e w4 ⟨v4,v4',rfl,hq,_,hb4⟩
 have hlt3:w2.heap.size<w3.heap.size:=by omega
 have s1:=(hb4.block _ (ac r1)).trans r1
 have s2:=(hb4.block _ (ac r2)).trans r2
 have s3:=(hb4.block _ (ac r3)).trans r3
 have s0:=(hb4.block _ (ac r0)).trans r0
 have HG4:=CX (HG.out.below hb4)
 have HE4:=CX (HE3.out.below hb4)
 have HQ4:=CX hq
 have HB4:=HB3.trans (hb4.mono HB3.size)
 clear r0 r1 r2 r3 a0 a1 HB3 hb4 HD3 HE3 HG hq
 have a1:=aa s1 1
 have a3:=aa s3 1
 have a0:=aa s0 0
 go_wp2_with fail
 refine (kc _ _ d (Nat.gcd n d) w4 HE4.out HG4.out hgp HFD.out HFG.out).mono ?_
 rintro e w5 ⟨v5,v5',rfl,hq5,_,hb5⟩
 have s0':=(hb5.block _ (ac s0)).trans s0
 have s2':=(hb5.block _ (ac s2)).trans s2
 have HQ5:=CX (HQ4.out.below hb5)
 have HP5:=CX hq5
 have HB5:=HB4.trans (hb5.mono HB4.size)
 clear s0 s1 s2 s3 a0 a1 a3 HB4 hb5 HQ4 HG4 HE4 hq5
 have a0:=aa s0' 0
 go_wp2_with fail
 refine (ec _ _ _ w5 HQ5.out (aO _).1).mono ?_
 rintro e w6 ⟨v6,rfl,hz6,hb6⟩
 rw [aE aG] at hz6
 obtain ⟨p6,N6,c6,rfl,hN6,hNc6,hcm6,hd6⟩:=hz6.nat
 have HP6:=CX (HP5.out.below hb6)
 have t2:=(hb6.block _ (ac s2')).trans s2'
 have HB6:=HB5.trans (hb6.mono HB5.size)
 have HD6:=CX hd6
 clear a0 s0' s2' HP5 HQ5 HB5 hb6 hz6 hd6
 go_wp2_with fail
 refine (ec _ _ _ w6 HP6.out (aO _).1).mono ?_
 rintro e w7 ⟨v7,rfl,hz7,hb7⟩
 rw [aE aG] at hz7
 obtain ⟨p7,N7,c7,rfl,hN7,hNc7,hcm7,hd7⟩:=hz7.nat
 have u2:=(hb7.block _ (ac t2)).trans t2
 have HB7:=HB6.trans (hb7.mono HB6.size)
 have hP:=cK (u0:=.bool false) (u1:=.slice p6 N6 c6) (u2:=.bool false) (u3:=.slice p7 N7 c7) u2
 have hZ:Hid (IsQ (gc w7 (w.heap.size+1+1) (.bool false) (.slice p6 N6 c6) (.bool false) (.slice p7 N7 c7)) (.agg #[.bool false,.slice p6 N6 c6,.bool false,.slice p7 N7 c7]) (dP false n d)):=by
  rw [HR.out]
  exact ⟨_,_,rfl,hP.isI u2 dq (HD6.out.below hb7),hP.isI u2 dq hd7⟩
 have hB:=HB7.trans (hP.below w.heap.size (by omega))
 have q0:=aa u2 0
 have q1:=aa u2 1
 have q2:=aa u2 2
 have q3:=aa u2 3
 have f0:=frozen_of_row w7 (w.heap.size+1+1) 0 _ _ u2
 have f1:=frozen_of_row w7 (w.heap.size+1+1) 1 _ _ u2
 have f2:=frozen_of_row w7 (w.heap.size+1+1) 2 _ _ u2
 have f3:=frozen_of_row w7 (w.heap.size+1+1) 3 _ _ u2
 clear t2 HP6 HB6 hb7 hz7 hd7 HD6
 go_wp2_with fail
 (try simp only [Exit.inBlock,Exit.then])
 change bodyPost _ _ _ _ _ (gc w7 (w.heap.size+1+1) (.bool false) (.slice p6 N6 c6) (.bool false) (.slice p7 N7 c7))
 refine bodyPost_ret (results_cell_row rfl _ _ (w.heap.size+1+1) _ _ (0,0) _ rfl hP.row Tryz.underlying173 rfl (by kernel_rfl)) rfl ?_
 exact ⟨_,rfl,hZ.out,hB⟩
end Go.Proofs.YtnkgbocdpngldaaGreatDoor
