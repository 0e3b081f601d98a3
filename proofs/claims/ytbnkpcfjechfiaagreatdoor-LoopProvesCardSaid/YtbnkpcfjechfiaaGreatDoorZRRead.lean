/- Lemmas of this claim. -/
import Derived.Laws.Runes
import Derived.Test.YtbnkpcfjechfiaaGreatDoorZGet
import Derived.Test.YtbnkpcfjechfiaaGreatDoorZNQ
import Derived.Test.YtbnkpcfjechfiaaGreatDoorZRBase
import Derived.Test.YtbnkpcfjechfiaaGreatDoorZRNat2
import Derived.Test.YtbnkpcfjechfiaaGreatDoorZRDiv
set_option linter.all false
set_option maxRecDepth 100000
set_option maxHeartbeats 8000000
namespace Go.Proofs.YtbnkpcfjechfiaaGreatDoor
open Dg Dc
/-! ### texts -/
theorem yt {d:Nat} (h:d<RR):dec (RR+d)=49 :: low 4 d:=by
 have:=jN 4 (RR+d) (by unfold RR;omega)
 rw[this,show (RR+d) / 10 ^ 4=1 from by unfold RR at *;omega,show (RR+d) % 10 ^ 4=d from by unfold RR at *;omega]
 rw[dO (by decide)];rfl
theorem sj {l:List Nat}{k:Nat} (hl:∀ d∈l,d<RR) (h0:0<k) (hk:k≤l.length) (hv:0<val RR (l.drop k)):dec (val RR (l.drop (k-1)))=dec (val RR (l.drop k))++low 4 (nth l (k-1)):=by
 have hd:=b8 (j:=k-1) hl
 rw[drop_one h0 hk]
 rw[jN 4 (nth l (k-1)+RR*val RR (l.drop k)) (by unfold RR at *;omega)]
 rw[show (nth l (k-1)+RR*val RR (l.drop k)) / 10 ^ 4=val RR (l.drop k) from by unfold RR at *;omega,show (nth l (k-1)+RR*val RR (l.drop k)) % 10 ^ 4=nth l (k-1) from by unfold RR at *;omega]
theorem ua {l:List Nat} (h:0<l.length):val RR (l.drop (l.length-1))=nth l (l.length-1):=by
 rw[drop_one (by omega) (Fm _),In];simp[val]
theorem AW {l:List Nat} (hl:CR l) (h:0<l.length):0<nth l (l.length-1):=by
 have hne:l≠[]:=FK.1 h
 have:=hl.2 hne
 rw[dU l _ (by omega)]
 rw[Ih] at this
 omega
theorem zu {l:List Nat} (hl:CR l) (h:0<l.length):(dec (val RR l)).length=4*(l.length-1)+(dec (nth l (l.length-1))).length:=by
 have key:∀ k,k≤l.length-1→(dec (val RR (l.drop (l.length-1-k)))).length=4*k+(dec (nth l (l.length-1))).length∧0<val RR (l.drop (l.length-1-k)):=by
  intro k
  induction k with
  | zero=>intro _;rw[Ie,ua h];exact⟨by omega,AW hl h⟩
  | succ k ih =>
   intro hk
   obtain⟨i1,i2⟩:=ih (by omega)
   have:=sj (l:=l) (k:=l.length-1-k) hl.1 (by omega) (by omega) i2
   rw[show l.length-1-(k+1)=l.length-1-k-1 from by omega]
   rw[this,Fv,iS,i1]
   refine⟨by omega,?_⟩
   rw[drop_one (by omega) (by omega)]
   have:0<RR*val RR (l.drop (l.length-1-k)):=GB (by decide) i2
   omega
 have:=(key (l.length-1) (Fm _)).1
 rw[G8,Fr] at this
 exact this
structure mS (n m:Nat) (s:List UInt8):Prop where
 eq:dec n=(if m=0 then [] else dec m)++s
theorem su {n:Nat} (h:0<n):mS n n []:=⟨by rw[if_neg (by omega),Gk]⟩
theorem uK {n m:Nat}{s:List UInt8} (h:mS n m s) (hm:0<m):mS n (m / 10) (dg (m % 10) :: s):=by
 have he:=h.eq
 rw[if_neg (by omega)] at he
 refine⟨?_⟩
 rw[he]
 by_cases h10:m<10
 ·rw[dO h10,if_pos (by omega),show m % 10=m from by omega];rfl
 ·rw[iO (by omega),if_neg (by omega),FW];rfl
theorem yv {n:Nat}{s:List UInt8} (h:mS n 0 s):s=dec n:=by have:=h.eq;simpa using this.symm
/-! ### reading -/
/-- how many digits a text begins with, m at most -/
def dE:List UInt8→Nat→Nat
 | [],_=>0
 | _ :: _,0=>0
 | c :: s,m+1=>if a8 c then dE s m+1 else 0
theorem eo:∀ (s:List UInt8) (m:Nat),dE s m≤m∧dE s m≤s.length
 | [],m=>by simp[dE]
 | _ :: _,0=>by simp[dE]
 | c :: s,m+1=>by
  rw[dE]
  have:=eo s m
  split
  ·simp only[FH];omega
  ·simp
theorem il:∀ (s:List UInt8) (m:Nat),(s.take (dE s m)).all a8=true
 | [],m=>by simp[dE]
 | _ :: _,0=>by simp[dE]
 | c :: s,m+1=>by
  rw[dE]
  split
  ·rename_i h
   rw[Fp,Hy,h,il s m];rfl
  ·rfl
theorem jM:∀ (s:List UInt8) (m i:Nat),i≤dE s m→(i<dE s m↔(i<m∧∃ h:i<s.length,a8 s[i]=true))
 | [],m,i,h=>by simp[dE] at *
 | c :: s,0,i,h=>by simp[dE] at *
 | c :: s,m+1,0,h=>by
  rw[dE]
  split
  ·rename_i hc;simp[hc]
  ·rename_i hc;simp[hc]
 | c :: s,m+1,i+1,h=>by
  rw[dE] at h ⊢
  split at h
  ·rename_i hc
   rw[if_pos hc]
   have:=jM s m i (by omega)
   simp only[FH,Fi]
   constructor
   ·intro hi
    obtain⟨a,b,c⟩:=this.1 (by omega)
    exact⟨by omega,by omega,c⟩
   ·rintro⟨a,b,c⟩
    have:=this.2 ⟨by omega,by omega,c⟩
    omega
  ·omega
def dr (s:List UInt8):Nat×List UInt8:=(aS (s.take (dE s 2001)),s.drop (dE s 2001))
def cA (s:List UInt8):Rt×List UInt8 :=
 if dE s 2001=0 then (⟨false,1,1⟩,s)
 else if (dr s).2.head?=some 47∧(dr ((dr s).2.drop 1)).1≠0 then (du false (dr s).1 (dr ((dr s).2.drop 1)).1,(dr ((dr s).2.drop 1)).2)
 else (⟨false,(dr s).1,1⟩,(dr s).2)
def om (r:Rt):Rt:=⟨!r.minus&&decide (r.n≠0),r.n,r.d⟩
def bY (s:List UInt8):Rt×List UInt8 :=
 if s.head?=some 45 then (om (cA (s.drop 1)).1,(cA (s.drop 1)).2)
 else if s.head?=some 43 then cA (s.drop 1) else cA s
def fh:Rt:=⟨false,0,1⟩
def aR (s:List UInt8):Vl :=
 if (bY s).2=[105] then ⟨fh,(bY s).1⟩
 else if (bY s).2=[] then ⟨(bY s).1,fh⟩
 else ⟨(bY s).1,(bY (bY s).2).1⟩
def rOK (s:List UInt8):Bool:=decide (bI (aR s)=s)&&!(cX (aR s).x||cX (aR s).y)
def ka (s:List UInt8):Bool:=rOK s&&decide ((aR s).y.n=0)
def ec (r:Rt):Bool:=decide (r.n≤4096)&&decide (r.d≤4096)
def Aj (s:List UInt8):Bool:=ka s&&(rOK s&&ec (aR s).x&&ec (aR s).y)
structure uw (s t:List UInt8) (lo:List Nat):Prop where
 ex:∃ r,s=t++r∧r.all a8=true∧aS r=Dg.val RR lo∧(t≠[]→r.length=4*lo.length)
 dig:∀ d∈lo,d<RR
 few:4*lo.length≤s.length+3
theorem Dz (s:List UInt8):uw s s []:=⟨⟨[],by simp,rfl,rfl,fun _=>rfl⟩,by simp,by simp⟩
theorem EH {s t:List UInt8}{lo:List Nat}{k:Nat} (h:uw s t lo) (hk:k=t.length-4) (hne:t≠[]) (hd:(t.drop k).all a8=true) :
  uw s (t.take k) (lo++[aS (t.drop k)]):=by
 obtain⟨r,e1,e2,e3,e4⟩:=h.ex
 have hr:=e4 hne
 have hpos:=FK.2 hne
 have hlen:(t.drop k).length≤4:=by rw[FC];omega
 have hlt:aS (t.drop k)<RR:=by
  have h1:=gr _ hd
  have h2:10 ^ (t.drop k).length≤10 ^ 4:=FG (by omega) hlen
  have h3:(10:Nat) ^ 4=RR:=by decide
  omega
 refine⟨⟨t.drop k++r,?_,?_,?_,?_⟩,?_,?_⟩
 ·rw[←FW,Ir];exact e1
 ·rw[GR,hd,e2];rfl
 ·rw[ef,e3,dW,hr]
  have:(10:Nat) ^ (4*lo.length)=RR ^ lo.length:=by rw[G5];rfl
  rw[this,FE];omega
 ·intro hk2
  have:k≠0:=by intro e;rw[e] at hk2;simp at hk2
  simp only[Fv,FC,FH,Gc]
  omega
 ·intro d hd
  rcases F8.1 hd with hd | hd
  ·exact h.dig d hd
  ·simp at hd;subst hd;exact hlt
 ·have:=h.few
  have h5:s.length=t.length+r.length:=by rw[e1];simp
  simp only[Fv,FH,Gc]
  omega
theorem Fe {s:List UInt8}{lo:List Nat} (h:uw s [] lo):lean lo=aq RR (aS s):=by
 obtain⟨r,e1,e2,e3,_⟩:=h.ex
 simp only[FS] at e1
 subst e1
 rw[e3];exact cG aF h.dig
theorem A8 {t:List UInt8}{k i n:Nat} (h:NIn t k i n) (hk:k=t.length-4) (hi:i≤t.length):n<10000:=by
 have h1:=gr _ h.all
 have h2:10 ^ ((t.drop k).take (i-k)).length≤10 ^ 4:=FG (by omega) (by rw[FN,FC];omega)
 have h3:(10:Nat) ^ 4=10000:=by decide
 rw[h.eq];omega
structure ia (r:Rt):Prop where
 pos:0<r.d
 gcd:Nat.gcd r.n r.d=1
 sign:r.minus=true→r.n≠0
theorem nm {mi:Bool}{n d:Nat} (h:0<d):ia (du mi n d):=by
 unfold du
 split
 ·exact⟨by decide,by decide,fun h=>by cases h⟩
 ·rename_i hn
  have hg:0<Nat.gcd n d:=Gy _ h
  refine⟨IE (IN _ h) hg,?_,fun _=>?_⟩
  ·rw[Nat.gcd_div (Ip ..) (IJ ..),Nat.div_self hg]
  have:0<n / Nat.gcd n d:=IE (Hz (by omega) (Ip ..)) hg
  show n / Nat.gcd n d≠0
  omega
theorem nk (n:Nat):ia ⟨false,n,1⟩:=⟨Nat.one_pos,Nat.gcd_one_right n,fun h=>by cases h⟩
theorem Ab {r:Rt} (h:ia r):ia (om r):=⟨h.pos,h.gcd,fun hm=>by unfold om at hm;simp at hm;exact hm.2⟩
theorem lw (s:List UInt8):ia (cA s).1:=by
 unfold cA
 split
 ·exact nk 1
 ·split
  ·rename_i h;exact nm (by have:=h.2;omega)
  ·exact nk _
theorem jK (s:List UInt8):ia (bY s).1:=by
 unfold bY
 split
 ·exact Ab (lw _)
 ·split<;>exact lw _
theorem pw:ia fh:=nk 0
theorem ij (s:List UInt8):ia (aR s).x∧ia (aR s).y:=by
 unfold aR
 split
 ·exact⟨pw,jK _⟩
 ·split
  ·exact⟨jK _,pw⟩
  ·exact⟨jK _,jK _⟩
theorem fK {s:List UInt8}{r:Rt} (h:cT s=some r):ia r:=by
 unfold cT at h
 split at h
 ·cases h
 ·split at h
  ·split at h
   ·cases h
   ·split at h
    ·cases h
    ·rename_i h0;injection h with h;subst h;exact nm (by omega)
  ·injection h with h;subst h;exact nm (by decide)
theorem mP {r:Rt} (h:ia r):du r.minus r.n r.d=r:=by
 obtain⟨m,n,d⟩:=r
 have h1:=h.pos
 have h2:=h.gcd
 have h3:=h.sign
 simp only at h1 h2 h3 ⊢
 unfold du
 rw[h2,IS,IS]
 split
 ·rename_i h0
  subst h0
  rw[Hp] at h2
  cases m
  ·rw[h2]
  ·exact absurd rfl (h3 rfl)
 ·rfl
/-! ### texts of digits -/
theorem sn (n:Nat):∃ c r,dec n=c :: r∧a8 c=true:=by
 cases h:dec n with
 | nil=>exact absurd h (gJ n)
 | cons c r =>
  have:=et n
  rw[h,Hy,FI] at this
  exact⟨c,r,rfl,this.1⟩
theorem jo {c:UInt8} (h:a8 c=true):c≠43∧c≠45∧c≠47∧c≠105:=by
 unfold a8 at h
 simp only[FI,decide_eq_true_eq] at h
 refine⟨?_,?_,?_,?_⟩<;>(intro e;subst e;revert h;decide)
theorem r_:∀ (l t:List UInt8) (m:Nat),l.all a8=true→l.length≤m→(∀ c,t.head?=some c→a8 c=false)→dE (l++t) m=l.length
 | [],[],m,_,_,_=>by simp[dE]
 | [],c :: t,0,_,_,_=>by simp[dE]
 | [],c :: t,m+1,_,_,h=>by
  have:=h c rfl
  simp[dE,this]
 | c :: l,t,0,_,h,_=>by simp at h
 | c :: l,t,m+1,ha,hl,h=>by
  rw[Hy,FI] at ha
  rw[FX,dE,if_pos ha.1,r_ l t m ha.2 (by simpa using hl) h];rfl
theorem ot {n:Nat}{t:List UInt8} (hl:(dec n).length≤2001) (h:∀ c,t.head?=some c→a8 c=false):dr (dec n++t)=(n,t)∧dE (dec n++t) 2001=(dec n).length:=by
 have e:=r_ (dec n) t 2001 (et n) hl h
 refine⟨?_,e⟩
 unfold dr
 rw[e,Iv,List.drop_left',km]<;>rfl
def fJ (r:Rt):List UInt8:=dec r.n++(if 1<r.d then 47 :: dec r.d else [])
theorem gC (r:Rt):aK r=(if r.minus then [45] else [])++fJ r:=by unfold aK fJ;rw[FW]
theorem m_ {r:Rt} (h:cX r=false):(dec r.n).length≤2000∧(dec r.d).length≤2000:=by
 unfold cX at h
 simp only[GY,decide_eq_false_iff_not] at h
 omega
theorem kD (r:Rt):∃ c t,fJ r=c :: t∧a8 c=true:=by
 obtain⟨c,t,h1,h2⟩:=sn r.n
 exact⟨c,t++_,by unfold fJ;rw[h1];rfl,h2⟩
theorem zg {r:Rt} (h:ia r) (hb:cX r=false):cA (fJ r)=(⟨false,r.n,r.d⟩,[]):=by
 obtain⟨h1,h2⟩:=m_ hb
 have hp:=gI r.n
 have hpos:=h.pos
 unfold fJ
 split
 ·rename_i hd
  obtain⟨e1,e2⟩:=ot (n:=r.n) (t:=47 :: dec r.d) (by omega) (fun c hc=>by simp at hc;subst hc;decide)
  obtain⟨e3,_⟩:=ot (n:=r.d) (t:=[]) (by omega) (fun c hc=>by cases hc)
  rw[Gk] at e3
  unfold cA
  rw[e2,if_neg (by omega),e1]
  simp only[IQ,List.drop_one,List.tail_cons]
  rw[e3,if_pos ⟨by simp,by show r.d≠0;omega⟩]
  have:=mP (r:=⟨false,r.n,r.d⟩) ⟨h.pos,h.gcd,fun h=>by cases h⟩
  rw[this]
 ·rename_i hd
  obtain⟨e1,e2⟩:=ot (n:=r.n) (t:=[]) (by omega) (fun c hc=>by cases hc)
  rw[show r.d=1 by omega]
  unfold cA
  rw[e2,if_neg (by omega),e1]
  rfl
theorem vE {r:Rt} (h:ia r) (hb:cX r=false):bY (aK r)=(r,[]):=by
 rw[gC]
 have hp:=zg h hb
 obtain⟨c,t,e1,e2⟩:=kD r
 obtain⟨m,n,d⟩:=r
 cases m
 ·simp only[FL,if_false,FS]
  obtain⟨n1,n2,_⟩:=jo e2
  unfold bY
  rw[e1] at hp ⊢
  simp only[IQ,Option.some.injEq]
  rw[if_neg n2,if_neg n1];exact hp
 ·simp only[if_true]
  have hs:=h.sign rfl
  simp only at hs
  unfold bY
  simp only[FX,FS,IQ,if_true,List.drop_one,List.tail_cons]
  rw[hp]
  unfold om
  simp[hs]
theorem kv {r:Rt} (h:ia r) (hb:cX r=false):aR (aK r)=⟨r,fh⟩:=by
 unfold aR
 rw[vE h hb]
 simp
theorem db {z:Vl} (h:z.y.n=0):bI z=aK z.x:=by unfold bI;rw[if_pos h]
/-! ### the program's reading of such a text -/
theorem oX {l:List UInt8}{c d:UInt8} (h:c≠d):Lib.hasSuffix (l++[c]) [d]=false:=by
 unfold Lib.hasSuffix
 rw[F_]
 intro he
 rw[IG] at he
 obtain⟨t,ht⟩:=he
 have:=List.append_inj_right' ht rfl
 simp at this
 exact h this.symm
theorem sr (n:Nat):∃ l c,dec n=l++[c]∧a8 c=true:=by
 have hne:=gJ n
 have:=IC hne
 exact⟨_,_,this.symm,FR.1 (et n) _ (List.getLast_mem hne)⟩
theorem zB (r:Rt):∃ l c,aK r=l++[c]∧a8 c=true:=by
 rw[gC]
 unfold fJ
 by_cases hd:1<r.d
 all_goals first | rw[if_pos hd] | rw[if_neg hd]
 ·obtain⟨l,c,h1,h2⟩:=sr r.d
  exact⟨(if r.minus then [45] else [])++(dec r.n++47 :: l),c,by rw[h1];simp only[FW,FX],h2⟩
 ·obtain⟨l,c,h1,h2⟩:=sr r.n
  exact⟨(if r.minus then [45] else [])++l,c,by rw[h1];simp only[FW,Gk],h2⟩
theorem vv (r:Rt):fU (aK r)=(aK r,[48]):=by
 obtain⟨l,c,h1,h2⟩:=zB r
 have:Lib.hasSuffix (aK r) [105]=false:=by rw[h1];exact oX (jo h2).2.2.2
 unfold fU
 rw[this];rfl
theorem iU (c d:UInt8) (l:List UInt8):Lib.hasPrefix (c :: l) [d]=decide (c=d):=by
 unfold Lib.hasPrefix
 rw[G_,IF]
 simp[List.cons_prefix_cons,eq_comm]
theorem lR (r:Rt):Lib.trimPrefix (aK r) [45]=fJ r∧Lib.hasPrefix (aK r) [45]=r.minus:=by
 rw[gC]
 obtain⟨c,t,e1,e2⟩:=kD r
 unfold Lib.trimPrefix
 cases r.minus
 ·simp only[FL,if_false,FS]
  rw[e1,iU,decide_eq_false (jo e2).2.1]
  exact⟨rfl,rfl⟩
 ·simp only[if_true,FX,FS]
  rw[iU,decide_eq_true rfl]
  exact⟨rfl,rfl⟩
theorem qZ {s:List UInt8}{d:UInt8}{i:Nat}:Lib.occAt s [d] i=true↔s[i]?=some d:=by
 unfold Lib.occAt
 rw[IF]
 constructor
 ·rintro⟨t,ht⟩
  have:(s.drop i)[0]?=some d:=by rw[←ht];rfl
  rw[GW] at this
  simpa using this
 ·intro h
  obtain⟨hi,e⟩:=Gg.1 h
  exact⟨s.drop (i+1),by rw[Gf hi,e];rfl⟩
theorem kp {s:List UInt8}{d:UInt8} (h:d∉s):Lib.index s [d]=-1:=by
 refine Lib.index_none (fun j _=>?_)
 rw[F_]
 intro he
 exact h (Hd (qZ.1 he))
theorem pG {l t:List UInt8}{d:UInt8} (h:d∉l):Lib.index (l++d :: t) [d]=l.length:=by
 refine Lib.index_first (by simp) (qZ.2 (by simp)) (fun j hj=>?_)
 rw[F_]
 intro he
 have:=qZ.1 he
 rw[Hc hj] at this
 exact h (Hd this)
theorem jw {l:List UInt8} (h:l.all a8=true):(47:UInt8)∉l:=fun hm=>(jo (FR.1 h _ hm)).2.2.1 rfl
theorem ju (n:Nat):cR (dec n)=some n:=by
 unfold cR
 rw[if_pos ⟨gJ n,et n⟩,km]
theorem jz {r:Rt} (h:ia r):cT (aK r)=some r:=by
 obtain⟨e1,e2⟩:=lR r
 have hpos:=h.pos
 unfold cT
 rw[e1,e2]
 unfold fJ Lib.cut
 by_cases hd:1<r.d
 all_goals first | rw[if_pos hd] | rw[if_neg hd]
 ·rw[pG (jw (et r.n)),if_pos (by omega)]
  simp only[Hl]
  rw[Iv rfl,ju]
  simp only[if_true]
  have:(dec r.n++47 :: dec r.d).drop ((dec r.n).length+([47]:List UInt8).length)=dec r.d:=by simp[List.drop_append]
  rw[this,ju]
  simp only
  rw[if_neg (by omega),mP h]
 ·rw[Gk,kp (jw (et r.n)),if_neg (by omega)]
  simp only
  rw[ju]
  simp only[FL,if_false]
  have hd1:r.d=1:=by omega
  have:=mP h
  rw[hd1] at this
  rw[this]
theorem oH {r:Rt} (hb:cX r=false):(aK r).length≤4002:=by
 obtain⟨h1,h2⟩:=m_ hb
 rw[gC]
 unfold fJ
 rw[Fv,Fv]
 split<;>split<;>simp<;>omega
theorem sH {r:Rt} (h:ia r) (hb:cX r=false):gg (aK r)=some ⟨r,fh⟩:=by
 have hl:=oH hb
 unfold gg
 rw[if_neg (by omega),vv,jz h]
 simp only
 rw[mc]
 simp only
 rw[if_pos ⟨db rfl,hb,jY⟩];rfl
theorem tD (s:List UInt8):(fP s=true↔∃ r,ia r∧cX r=false∧s=aK r)∧(ka s=true↔∃ r,ia r∧cX r=false∧s=aK r):=by
 refine⟨⟨fun h=>?_,?_⟩,⟨fun h=>?_,?_⟩⟩
 ·unfold fP at h
  cases hg:gg s with
  | none=>rw[hg] at h;cases h
  | some z =>
   rw[hg] at h
   have hy:=of_decide_eq_true h
   unfold gg at hg
   split at hg
   ·cases hg
   ·split at hg
    ·rename_i p q hp hq
     split at hg
     ·rename_i hc
      injection hg with hg
      subst hg
      refine⟨p,fK hp,hc.2.1,?_⟩
      rw[←hc.1]
      exact db hy
     ·cases hg
    ·cases hg
 ·rintro⟨r,h1,h2,rfl⟩
  unfold fP
  rw[sH h1 h2];rfl
 ·unfold ka rOK at h
  simp only[FI,decide_eq_true_eq,Bool.not_eq_true',GY] at h
  exact⟨(aR s).x,(ij s).1,h.1.2.1,by rw[←db h.2];exact h.1.1.symm⟩
 ·rintro⟨r,h1,h2,rfl⟩
  unfold ka rOK
  rw[kv h1 h2,db rfl]
  simp[h2,jY,show cX fh=false from jY,show fh.n=0 from rfl]
/-! ### short parts -/
theorem si (c:UInt8) (l:List UInt8):aS (c :: l)=(c.toNat-48)*10 ^ l.length+aS l:=by
 have:=ef [c] l
 rw[Ht] at this
 rw[this]
 simp[aS]
theorem nZ:∀ (l:List UInt8) (acc:Nat),l.all a8=true→acc<18446744073709551616 →
  Lib.parseUint10 acc l=if acc*10 ^ l.length+aS l<18446744073709551616 then .ok (acc*10 ^ l.length+aS l) else .range
 | [],acc,_,h=>by simp[Lib.parseUint10,aS,h]
 | c :: l,acc,ha,h=>by
  rw[Hy,FI] at ha
  have hc:48≤c.toNat∧c.toNat≤57:=by have:=ha.1;unfold a8 at this;simpa using this
  have e:acc*10 ^ (c :: l).length+aS (c :: l)=(acc*10+(c.toNat-48))*10 ^ l.length+aS l:=by
   rw[si,FH,FD];grind
  have hpow:0<10 ^ l.length:=GS (by decide)
  have hge:acc*10+(c.toNat-48)≤(acc*10+(c.toNat-48))*10 ^ l.length:=GC _ hpow
  rw[Lib.parseUint10,if_pos hc,e]
  split
  ·rw[if_neg (by omega)]
  ·split
   ·rw[if_neg (by omega)]
   ·exact nZ l _ ha.2 (by omega)
theorem th (n:Nat):iy (dec n)=decide (n≤4096):=by
 obtain⟨c,t,e1,e2⟩:=sn n
 have hc:48≤c.toNat∧c.toNat≤57:=by have:=e2;unfold a8 at this;simpa using this
 have hp:=nZ (dec n) 0 (et n) (by decide)
 rw[km,GJ,Gl] at hp
 unfold iy Lib.atoiAll
 rw[e1]
 simp only
 rw[if_neg (by omega),←e1]
 unfold Lib.parseMag
 rw[if_neg (gJ n),hp]
 by_cases h1:n<18446744073709551616
 ·rw[if_pos h1]
  simp only
  have hn:¬ c.toNat=45:=by omega
  by_cases h2:9223372036854775808≤n
  ·simp[hn,h2];omega
  ·simp[hn,h2];omega
 ·rw[if_neg h1]
  simp
  omega
theorem qj (r:Rt) (h:0<r.d):(fx ⟨(fJ r).toArray⟩).all (fun p=>iy p.data.toList)=ec r:=by
 have e:(fx ⟨(fJ r).toArray⟩).all (fun p=>iy p.data.toList)=(Lib.splitK [47] 0 (Lib.count (fJ r) [47]) (fJ r)).all iy:=by
  have:=Lib.splitB_data ⟨#[47]⟩ 0 (Lib.countB ⟨(fJ r).toArray⟩ ⟨#[47]⟩) ⟨(fJ r).toArray⟩
  have e2:Lib.countB ⟨(fJ r).toArray⟩ ⟨#[47]⟩=Lib.count (fJ r) [47]:=by unfold Lib.countB;simp
  rw[e2] at this
  unfold fx
  rw[e2]
  simp only[IB] at this
  rw[←this,List.all_map];rfl
 rw[e]
 unfold fJ ec
 split
 ·have h1:=pG (t:=dec r.d) (jw (et r.n))
  have h2:=kp (jw (et r.d))
  have e3:(dec r.n++47 :: dec r.d).drop ((dec r.n).length+([47]:List UInt8).length)=dec r.d:=by simp[List.drop_append]
  rw[Lib.count_hit (by simp) h1,e3,Lib.count_miss h2]
  show (Lib.splitK [47] 0 (0+1) _).all iy=_
  rw[Lib.splitK,if_neg (by rw[h1];simp),h1]
  simp only[Hl,FU]
  rw[e3,Iv rfl]
  simp[Lib.splitK,th]
 ·rw[Gk,Lib.count_miss (kp (jw (et r.n)))]
  simp only[Lib.splitK,Hy,List.all_nil,Bool.and_true,th]
  rw[show r.d=1 by omega];simp
theorem CF (s:List UInt8):Aj s=bX s:=by
 obtain⟨h1,h2⟩:=tD s
 unfold Aj bX
 by_cases hr:∃ r,ia r∧cX r=false∧s=aK r
 ·rw[h1.2 hr,h2.2 hr]
  obtain⟨r,c1,c2,rfl⟩:=hr
  have hok:rOK (aK r)=true:=by
   have:=h2.2 ⟨r,c1,c2,rfl⟩
   unfold ka at this
   rw[FI] at this
   exact this.1
  rw[hok,kv c1 c2]
  unfold gP
  rw[(lR r).1,qj r c1.pos]
  simp[show ec fh=true by decide]
 ·rw[show fP s=false by rw[F_];exact fun h=>hr (h1.1 h),show ka s=false by rw[F_];exact fun h=>hr (h2.1 h)]
  rfl
open Go.RowKit Dg Dc
def toQ (r:Rt):Rat:=mkRat (sgz r.minus r.n) r.d
theorem BM {r:Rt} (h:ia r):rt (toQ r)=r:=by unfold toQ;rw[←ld _ _ _ h.pos,mP h]
theorem vU (q:Rat):toQ (rt q)=q:=by
 unfold toQ
 rw[oA]
 exact Rat.mkRat_self q
theorem kH (q:Rat):ia (rt q):=⟨q.den_pos,q.reduced,fun h=>by
 unfold rt at h ⊢
 simp only[decide_eq_true_eq] at h ⊢
 omega⟩
def ee (z:CQ):Bool:=cX (rt z.re)||cX (rt z.im)
def txt (z:CQ):ByteArray:=⟨(bI (ct z)).toArray⟩
def dy (s:ByteArray):Option CQ:=(gg s.data.toList).map fun z=>⟨toQ z.x,toQ z.y⟩
def dQ (z:CQ):ByteArray×Int:=if ee z=true then (⟨#[]⟩,11) else (txt z,0)
theorem iM {s:ByteArray}{l:List UInt8} (h:s.data.toList=l):s=⟨l.toArray⟩:=by
 obtain⟨⟨d⟩⟩:=s
 simp only at h
 rw[h]
theorem ux {r:Rt} (hb:cX r=false) (hp:0<r.d):Sz 2000 r:=by
 obtain⟨h1,h2⟩:=m_ hb
 refine⟨?_,hp,?_⟩
 ·exact Nat.lt_of_not_le fun h=>by have:=j8 h;omega
 ·exact Nat.lt_of_not_le fun h=>by have:=j8 h;omega
theorem gY {s:ByteArray}{z:Vl} (h:gg s.data.toList=some z):∃ q,z=ct q∧dy s=some q∧SzV 2000 (ct q)∧ee q=false∧txt q=s:=by
 have h':=h
 unfold gg at h
 split at h
 ·cases h
 ·split at h
  ·rename_i p q hp hq
   split at h
   ·rename_i hc
    injection h with h
    subst h
    have e1:=BM (fK hp)
    have e2:=BM (fK hq)
    have e:(⟨p,q⟩:Vl)=ct ⟨toQ p,toQ q⟩:=by unfold ct;rw[e1,e2]
    refine⟨⟨toQ p,toQ q⟩,e,by unfold dy;rw[h'];rfl,?_,?_,?_⟩
    ·rw[←e];exact⟨ux hc.2.1 (fK hp).pos,ux hc.2.2 (fK hq).pos⟩
    ·unfold ee;simp only;rw[e1,e2,hc.2.1,hc.2.2];rfl
    ·unfold txt;rw[←e,hc.1]
   ·cases h
  ·cases h
theorem gy {s:ByteArray} (h:gg s.data.toList=none):dy s=none:=by unfold dy;rw[h];rfl
theorem pE {q:Rat} (h:ee (CQ.real q)=false):dy (txt (CQ.real q))=some (CQ.real q):=by
 have h1:cX (rt q)=false:=by unfold ee CQ.real at h;simp only[GY] at h;exact h.1
 have e:bI (ct (CQ.real q))=aK (rt q):=db (z:=ct (CQ.real q)) (by show (rt 0).n=0;rw[dz])
 unfold dy txt
 simp only[IB]
 rw[e,sH (kH q) h1]
 simp only[Iz,vU]
 congr 1
theorem sF {s:ByteArray}{z:CQ} (h:dy s=some z):ee z=false∧txt z=s∧SzV 2000 (ct z):=by
 cases hg:gg s.data.toList with
 | none=>rw[gy hg] at h;cases h
 | some y =>
  obtain⟨q,-,h1,h2,h3,h4⟩:=gY hg
  rw[h1] at h
  injection h with h
  subst h
  exact⟨h3,h4,h2⟩
def cz (φ:CQ→CQ→CQ×Int) (s t:ByteArray):ByteArray×Int :=
 match dy s,dy t with
 | some a,some b=>if (φ a b).2=0 then dQ (φ a b).1 else (⟨#[]⟩,(φ a b).2)
 | _,_=>(⟨#[]⟩,10)
def fi (f:CQ→CQ→CQ) (a b:CQ):CQ×Int:=(f a b,0)
def sB (a b:CQ):CQ×Int:=if b=⟨0,0⟩ then (⟨0,0⟩,12) else (a.div b,0)
def fT (s t:ByteArray):ByteArray:=(cz (fi CQ.add) s t).1
def ie (s t:ByteArray):ByteArray:=(cz (fi CQ.sub) s t).1
def dj (s t:ByteArray):ByteArray:=(cz (fi CQ.mul) s t).1
def dl (s t:ByteArray):ByteArray:=(cz sB s t).1
open Go.RowKit Dg
theorem Ck (va:Value) (u:Vl) (w:World) (ha:IsV w va u) :
  Calls Tryz.prog 165 #[va] w fun e w'=>e=.returned (.bool (decide (u.x.n=0∧u.y.n=0)))∧Below w.heap.size w w':=by
 obtain⟨a,b,c,d,e,f,rfl,hx,hy⟩:=ha
 have hb0:=aj w (.cells #[a,b,c,d,e,f] 153)
 have HB:=Ff hb0
 have H1:=Ff (gS _ _ _ (hx.below hb0))
 have H2:=Ff (fun wx (hw:Below (w.alloc (.cells #[a,b,c,d,e,f] 153)).heap.size (w.alloc (.cells #[a,b,c,d,e,f] 153)) wx)=>gS _ _ _ ((hy.below hb0).below hw))
 have q1:=bW.new w a b c d e f 153
 clear hb0
 go_enter Tryz.func165,Tryz.ntmps165
 go_upto_region 1 with fail
 generalize w.alloc (.cells #[a,b,c,d,e,f] 153)=w1 at *
 have a0:=q1.c0;have a1:=q1.c1;have a2:=q1.c2;have a3:=q1.c3;have a4:=q1.c4;have a5:=q1.c5
 by_cases h:u.x.n=0
 ·rw[decide_eq_true h] at H1
  go_wp2_with fail
  refine H1.out.mono ?_
  rintro e w2 ⟨rfl,hb2⟩
  have q2:=q1.below hb2
  have c0:=q2.c0;have c1:=q2.c1;have c2:=q2.c2;have c3:=q2.c3;have c4:=q2.c4;have c5:=q2.c5
  clear a0 a1 a2 a3 a4 a5
  go_wp2_with fail
  refine (H2.out w2 hb2).mono ?_
  rintro e w3 ⟨rfl,hb3⟩
  go_wp2
  go_ret
  exact⟨by simp[h],HB.out.trans ((hb2.trans (hb3.mono hb2.size)).mono HB.out.size)⟩
 ·rw[decide_eq_false h] at H1
  go_wp2_with fail
  refine H1.out.mono ?_
  rintro e w2 ⟨rfl,hb2⟩
  go_wp2
  go_ret
  exact⟨by simp[h],HB.out.trans (hb2.mono HB.out.size)⟩
theorem Bp (va:Value) (z:CQ) (w:World) (ha:IsV w va (ct z)) (hG:Gw w) :
  Calls Tryz.prog 148 #[va] w fun e w'=>e=.returned (.tuple #[.string (dQ z).1,.int .i64 (dQ z).2])∧Below w.heap.size w w':=by
 have ha0:=ha
 obtain⟨a,b,c,d,e,f,rfl,hx,hy⟩:=ha
 have hb0:=aj w (.cells #[a,b,c,d,e,f] 153)
 have HB:=Ff hb0
 have H1:=Ff (qD _ _ _ (hx.below hb0) (hG.below hb0))
 have H2:=Ff (fun wx (hw:Below (w.alloc (.cells #[a,b,c,d,e,f] 153)).heap.size (w.alloc (.cells #[a,b,c,d,e,f] 153)) wx)=>qD _ _ _ ((hy.below hb0).below hw) ((hG.below hb0).below hw))
 have H3:=Ff (fun wx (hw:Below (w.alloc (.cells #[a,b,c,d,e,f] 153)).heap.size (w.alloc (.cells #[a,b,c,d,e,f] 153)) wx)=>qw _ _ _ ((ha0.below hb0).below hw) (dJ _) (dJ _) ((hG.below hb0).below hw))
 have q1:=bW.new w a b c d e f 153
 clear hb0 ha0 hx hy
 go_enter Tryz.func148,Tryz.ntmps148
 go_upto_region 1 with fail
 generalize w.alloc (.cells #[a,b,c,d,e,f] 153)=w1 at *
 have a0:=q1.c0;have a1:=q1.c1;have a2:=q1.c2;have a3:=q1.c3;have a4:=q1.c4;have a5:=q1.c5
 by_cases h:cX (rt z.re)=true
 ·rw[show cX (ct z).x=true from h] at H1
  go_wp2_with fail
  refine H1.out.mono ?_
  rintro e w2 ⟨rfl,hb2⟩
  have hp:dQ z=(⟨#[]⟩,11):=by unfold dQ ee;rw[h];rfl
  go_wp2
  refine bodyPost_ret (v:=.tuple #[.string ⟨#[]⟩,.int .i64 11]) (by simp[results,Tryz.results148,go_sem]) rfl ⟨by rw[hp],HB.out.trans (hb2.mono HB.out.size)⟩
 ·rw[show cX (ct z).x=false from F_.2 h] at H1
  go_wp2_with fail
  refine H1.out.mono ?_
  rintro e w2 ⟨rfl,hb2⟩
  have q2:=q1.below hb2
  have c0:=q2.c0;have c1:=q2.c1;have c2:=q2.c2;have c3:=q2.c3;have c4:=q2.c4;have c5:=q2.c5
  clear a0 a1 a2 a3 a4 a5
  have H2:=Ff (H2.out w2 hb2)
  by_cases h2:cX (rt z.im)=true
  ·rw[show cX (ct z).y=true from h2] at H2
   go_wp2_with fail
   refine H2.out.mono ?_
   rintro e w3 ⟨rfl,hb3⟩
   have hp:dQ z=(⟨#[]⟩,11):=by unfold dQ ee;rw[h2];simp
   go_wp2
   refine bodyPost_ret (v:=.tuple #[.string ⟨#[]⟩,.int .i64 11]) (by simp[results,Tryz.results148,go_sem]) rfl ⟨by rw[hp],HB.out.trans ((hb2.trans (hb3.mono hb2.size)).mono HB.out.size)⟩
  ·rw[show cX (ct z).y=false from F_.2 h2] at H2
   go_wp2_with fail
   refine H2.out.mono ?_
   rintro e w3 ⟨rfl,hb3⟩
   have hB3:=hb2.trans (hb3.mono hb2.size)
   have q3:=q1.below hB3
   have d0:=q3.c0;have d1:=q3.c1;have d2:=q3.c2;have d3:=q3.c3;have d4:=q3.c4;have d5:=q3.c5
   clear c0 c1 c2 c3 c4 c5
   have hp:dQ z=(txt z,0):=by unfold dQ ee;rw[if_neg (by simpa using ⟨by simpa using h,by simpa using h2⟩)]
   have HP:=Ff hp
   clear hp
   go_wp2_with fail
   refine (H3.out w3 hB3).mono ?_
   rintro e w4 ⟨t,rfl,ht,-,hb4⟩
   go_wp2
   refine bodyPost_ret (v:=.tuple #[.string t,.int .i64 0]) (by simp[results,Tryz.results148,go_sem]) rfl ⟨?_,HB.out.trans ((hB3.trans (hb4.mono hB3.size)).mono HB.out.size)⟩
   rw[HP.out]
   have:t=txt z:=iM ht.out
   rw[this]
theorem eE {a b c a' b' c':Value} (h:Value.agg #[a,b,c]=.agg #[a',b',c']):a=a'∧b=b'∧c=c':=by simpa using h
structure DR (F:FuncId) (cap:Array Value) (φ:CQ→CQ→CQ×Int) (w:World):Prop where
 en:∀ (args:Array Value) (w:World),(callFunc F args).run Tryz.prog w=.ok (.enter F args) w
 on:∀ (x y:Value) (a b:CQ) (w':World),Below w.heap.size w w'→IsK w' x a→IsK w' y b→Calls Tryz.prog F (#[x,y]++cap) w' fun e w''=>∃ v z,e=.returned (.tuple #[v,.int .i64 (φ a b).2])∧IsV w'' v z∧((φ a b).2=0→z=ct (φ a b).1)∧Below w'.heap.size w' w''
theorem wB (F:FuncId) (cap:Array Value) (φ:CQ→CQ→CQ×Int) (s t:ByteArray) (w:World) (hG:Gw w) (hF:DR F cap φ w) :
  Calls Tryz.prog 163 #[.string s,.string t,.func (.func F) #[] cap] w fun e w'=>e=.returned (.tuple #[.string (cz φ s t).1,.int .i64 (cz φ s t).2])∧Below w.heap.size w w':=by
 have HF:=Ff hF
 have EN:=hF.en
 clear hF
 go_enter Tryz.func163,Tryz.ntmps163
 go_wp2_with fail
 refine (jQ s w hG).mono ?_
 rintro e w1 ⟨v,ok,rfl,hcase,hb1⟩
 rcases hcase with ⟨z,hz,rfl,hv⟩ | ⟨hz,rfl,rfl⟩
 ·obtain⟨p,rfl,hp1,hp2,-,-⟩:=gY hz
  have HP1:=Ff hp1
  clear hz hp1
  obtain⟨_,_,_,_,_,_,rfl,hx0,hy0⟩:=id hv
  obtain⟨xm,xp,xl,xc,xq,xk,xd,hxe⟩:=hx0.form
  obtain⟨ym,yp,yl,yc,yq,yk,yd,hye⟩:=hy0.form
  obtain⟨rfl,rfl,rfl⟩:=eE hxe
  obtain⟨rfl,rfl,rfl⟩:=eE hye
  clear hxe hye hx0 hy0
  go_upto_region 2 with fail
  have q1:=bW.new w1 (.bool xm) (.slice xp xl xc) (.slice xq xk xd) (.bool ym) (.slice yp yl yc) (.slice yq yk yd) 153
  have m1:=aj w1 (.cells #[.bool xm,.slice xp xl xc,.slice xq xk xd,.bool ym,.slice yp yl yc,.slice yq yk yd] 153)
  generalize w1.alloc (.cells #[.bool xm,.slice xp xl xc,.slice xq xk xd,.bool ym,.slice yp yl yc,.slice yq yk yd] 153)=w2 at *
  have B1:=Ff q1
  have HV:=Ff (hv.below m1)
  have hb2:=hb1.trans (m1.mono hb1.size)
  clear q1 hv m1
  go_wp2_with fail
  refine (jQ t w2 (hG.below hb2)).mono ?_
  rintro e w3 ⟨v2,ok2,rfl,hcase,hb3⟩
  have hB3:=hb2.trans (hb3.mono hb2.size)
  rcases hcase with ⟨z2,hz2,rfl,hv2⟩ | ⟨hz2,rfl,rfl⟩
  ·obtain⟨q,rfl,hr1,hr2,-,-⟩:=gY hz2
   have HP2:=Ff hr1
   clear hz2 hr1
   obtain⟨_,_,_,_,_,_,rfl,hx0,hy0⟩:=id hv2
   obtain⟨xm',xp',xl',xc',xq',xk',xd',hxe⟩:=hx0.form
   obtain⟨ym',yp',yl',yc',yq',yk',yd',hye⟩:=hy0.form
   obtain⟨rfl,rfl,rfl⟩:=eE hxe
   obtain⟨rfl,rfl,rfl⟩:=eE hye
   clear hxe hye hx0 hy0
   go_upto_region 5 with fail
   have q2:=bW.new w3 (.bool xm') (.slice xp' xl' xc') (.slice xq' xk' xd') (.bool ym') (.slice yp' yl' yc') (.slice yq' yk' yd') 153
   have m2:=aj w3 (.cells #[.bool xm',.slice xp' xl' xc',.slice xq' xk' xd',.bool ym',.slice yp' yl' yc',.slice yq' yk' yd'] 153)
   generalize w3.alloc (.cells #[.bool xm',.slice xp' xl' xc',.slice xq' xk' xd',.bool ym',.slice yp' yl' yc',.slice yq' yk' yd'] 153)=w4 at *
   have hb4:=hb3.trans (m2.mono hb3.size)
   have hB4:=hb2.trans (hb4.mono hb2.size)
   have q1:=B1.out.below hb4
   have HC:=Ff (HF.out.on _ _ p q w4 hB4 ⟨HV.out.below hb4,hp2.mono (by decide)⟩ ⟨hv2.below m2,hr2.mono (by decide)⟩)
   have a0:=q1.c0;have a1:=q1.c1;have a2:=q1.c2;have a3:=q1.c3;have a4:=q1.c4;have a5:=q1.c5
   have b0:=q2.c0;have b1:=q2.c1;have b2:=q2.c2;have b3:=q2.c3;have b4:=q2.c4;have b5:=q2.c5
   have HB4:=Ff hB4
   clear q1 q2 m2 hv2 hb3 hb4 hB4 hB3 hb2 HF
   go_wp2_with fail
   refine HC.out.mono ?_
   rintro e w5 ⟨v3,z3,rfl,hv3,hz3,hb5⟩
   obtain⟨err,herr⟩:∃ n,n=(φ p q).2:=⟨_,rfl⟩
   rw[←herr]
   have hB5:=HB4.out.trans (hb5.mono HB4.out.size)
   obtain⟨_,_,_,_,_,_,rfl,hx0,hy0⟩:=id hv3
   obtain⟨um,up,ul,uc,uq,uk,ud,hxe⟩:=hx0.form
   obtain⟨vm,vp,vl,vc,vq,vk,vd,hye⟩:=hy0.form
   obtain⟨rfl,rfl,rfl⟩:=eE hxe
   obtain⟨rfl,rfl,rfl⟩:=eE hye
   clear hxe hye hx0 hy0 a0 a1 a2 a3 a4 a5 b0 b1 b2 b3 b4 b5 HC HV B1 HB4
   by_cases he:err=0
   ·have hbc:cz φ s t=dQ (φ p q).1:=by unfold cz;rw[HP1.out,HP2.out];simp only;rw[if_pos (by rw[←herr];exact he)]
    have hz4:=hz3 (by rw[←herr];exact he)
    have HE:=Ff hbc
    rw[hz4] at hv3
    clear hbc hz3 herr hz4
    subst he
    go_upto_region 8 with fail
    have q3:=bW.new w5 (.bool um) (.slice up ul uc) (.slice uq uk ud) (.bool vm) (.slice vp vl vc) (.slice vq vk vd) 153
    have m3:=aj w5 (.cells #[.bool um,.slice up ul uc,.slice uq uk ud,.bool vm,.slice vp vl vc,.slice vq vk vd] 153)
    generalize w5.alloc (.cells #[.bool um,.slice up ul uc,.slice uq uk ud,.bool vm,.slice vp vl vc,.slice vq vk vd] 153)=w6 at *
    have a0:=q3.c0;have a1:=q3.c1;have a2:=q3.c2;have a3:=q3.c3;have a4:=q3.c4;have a5:=q3.c5
    have HB6:=Ff (hB5.trans (m3.mono hB5.size))
    have HG:=Ff (hG.below HB6.out)
    have HV:=Ff (hv3.below m3)
    clear q3 m3 hv3 hB5 hb5
    go_wp2_with fail
    refine (Bp _ _ _ HV.out HG.out).mono ?_
    rintro e w7 ⟨rfl,hb7⟩
    go_wp2
    refine bodyPost_ret (v:=.tuple #[.string (dQ (φ p q).1).1,.int .i64 (dQ (φ p q).1).2]) (by simp[results,Tryz.results163,go_sem]) rfl ⟨by rw[HE.out],HB6.out.trans (hb7.mono HB6.out.size)⟩
   ·have hbc:cz φ s t=(⟨#[]⟩,err):=by unfold cz;rw[HP1.out,HP2.out];simp only;rw[if_neg (by rw[←herr];exact he),herr]
    have HE:=Ff hbc
    have hne:(!(err == 0))=true:=by simpa using he
    clear hbc hz3 herr
    go_wp2
    refine bodyPost_ret (v:=.tuple #[.string ⟨#[]⟩,.int .i64 err]) (by simp[results,Tryz.results163,go_sem]) rfl ⟨by rw[HE.out],hB5.trans ((aj w5 _).mono hB5.size)⟩
  ·have e:cz φ s t=(⟨#[]⟩,10):=by unfold cz;rw[gy hz2,HP1.out]
   have HE:=Ff e
   clear e hz2
   unfold ic
   go_wp2
   refine bodyPost_ret (v:=.tuple #[.string ⟨#[]⟩,.int .i64 10]) (by simp[results,Tryz.results163,go_sem]) rfl ⟨by rw[HE.out],hB3.trans ((aj w3 _).mono hB3.size)⟩
 ·have e:cz φ s t=(⟨#[]⟩,10):=by unfold cz;rw[gy hz]
  have HE:=Ff e
  clear e hz
  unfold ic
  go_wp2
  refine bodyPost_ret (v:=.tuple #[.string ⟨#[]⟩,.int .i64 10]) (by simp[results,Tryz.results163,go_sem]) rfl ⟨by rw[HE.out],hb1.trans ((aj w1 _).mono hb1.size)⟩
def dC (w:World) (v:Value) (r:Rt):Prop:=∃ vn vd,v=.agg #[.bool r.minus,vn,.bool false,vd]∧IsD w vn r.n∧IsD w vd r.d
theorem dC.below {w w':World}{v:Value}{r:Rt} (h:dC w v r) (hb:Below w.heap.size w w'):dC w' v r:=by
 obtain⟨vn,vd,e,h1,h2⟩:=h
 exact⟨vn,vd,e,h1.below hb,h2.below hb⟩
theorem dC.puts {w w':World}{b:Nat}{t t0:TypeId}{us cs:Array Value}{v:Value}{r:Rt} (hv:dC w v r) (h:j1 w w' b t us) (hr:w.heap[b]?=some (.cells cs t0 (0,0))) (hn:∀ (j:Nat) (z:Int),cs[j]?≠some (Value.int .i64 z)):dC w' v r:=by
 obtain⟨vn,vd,e,h1,h2⟩:=hv
 exact⟨vn,vd,e,h.isI hr hn h1,h.isI hr hn h2⟩
theorem dC.parts {w:World}{v:Value}{r:Rt} (h:dC w v r):∃ p N c p' N' c',v=.agg #[.bool r.minus,.slice p N c,.bool false,.slice p' N' c']∧Hid (N=(aq RR r.n).length)∧N≤c∧c≤maxLen∧Hid (N'=(aq RR r.d).length)∧N'≤c'∧c'≤maxLen∧IsD w (.slice p N c) r.n∧IsD w (.slice p' N' c') r.d:=by
 obtain⟨vn,vd,rfl,h1,h2⟩:=h
 obtain⟨p,N,c,rfl,a,b,d⟩:=h1.parts
 obtain⟨p',N',c',rfl,a',b',d'⟩:=h2.parts
 exact⟨p,N,c,p',N',c',rfl,a,b,d,a',b',d',h1,h2⟩
theorem uT {w:World}{p:Option Addr}{N c n:Nat}{m:Bool} (h:IsD w (.slice p N c) n) (hm:m=true→n≠0):IsZ w (.agg #[.bool m,.slice p N c]) (sgn m n):=by
 refine⟨_,?_,by rw[h_];exact h⟩
 rw[rD]
 cases m
 ·rfl
 ·have:=hm rfl
  rw[decide_eq_true (by omega:0<n)];rfl
theorem iQ {w:World}{p:Option Addr}{N c n:Nat} (h:IsD w (.slice p N c) n):IsZ w (.agg #[.bool false,.slice p N c]) (n:Int):=uT (m:=false) h (fun h=>by cases h)
theorem IsZ.nat {w:World}{v:Value}{n:Nat} (h:IsZ w v (n:Int)):∃ p N c,v=.agg #[.bool false,.slice p N c]∧Hid (N=(aq RR n).length)∧N≤c∧c≤maxLen∧IsD w (.slice p N c) n:=by
 obtain⟨p,N,c,rfl,h1,h2,h3,h4⟩:=h.parts
 rw[FT] at h1 h4
 exact⟨p,N,c,by rw[show decide ((n:Int)<0)=false by simp],h1,h2,h3,h4⟩
theorem C8 (va vb:Value) (n d:Nat) (w:World) (ha:IsZ w va (n:Int)) (hb:IsZ w vb (d:Int)) (hd0:0<d) (hfn:bg n) (hfd:bg d) :
  Calls Tryz.prog 142 #[va,vb] w fun e w'=>∃ v,e=.returned v∧dC w' v (du false n d)∧Below w.heap.size w w':=by
 obtain⟨p,N,c,rfl,hN,hNc,hcm,hd⟩:=ha.nat
 obtain⟨p',N',c',rfl,hN',hNc',hcm',hd'⟩:=hb.nat
 have hl:=nN w (.cells #[.bool false,.slice p N c] 76) (.cells #[.bool false,.slice p' N' c'] 76) (.cells #[.bool false,.slice none 0 0,.bool false,.slice none 0 0] 78)
 have hgp:0<Nat.gcd n d:=Gy _ hd0
 have HFG:Hid (bg (Nat.gcd n d)):=hfd.mono (Hz hd0 (IJ ..))
 have HFN:=Ff hfn
 have HFD:=Ff hfd
 have HR:Hid (du false n d=⟨false,n / Nat.gcd n d,d / Nat.gcd n d⟩):=by
  unfold Hid du
  split
  ·rename_i h;subst h;rw[Hp,Nat.zero_div,Nat.div_self hd0]
  ·rfl
 have x0:=af hl.s0 0
 have x1:=af hl.s0 1
 have y0:=af hl.s1 0
 have y1:=af hl.s1 1
 have HD:=Ff (hd.below hl.below)
 have HD':=Ff (hd'.below hl.below)
 clear ha hb hd hd' hfn hfd
 go_enter Tryz.func142,Tryz.ntmps142
 go_upto_region 1 with fail
 generalize ((w.alloc (.cells #[.bool false,.slice p N c] 76)).alloc (.cells #[.bool false,.slice p' N' c'] 76)).alloc (.cells #[.bool false,.slice none 0 0,.bool false,.slice none 0 0] 78)=w1 at *
 go_wp2_with fail
 refine (oR _ _ n d w1 (iQ HD.out) (iQ HD'.out) HFN.out HFD.out).mono ?_
 rintro e w2 ⟨v2,rfl,hz2,hb2⟩
 rw[FT,FT] at hz2
 obtain⟨p2,N2,c2,rfl,hN2,hNc2,hcm2,hd2⟩:=hz2.nat
 have hl2:=bQ w2 (.cells #[.bool false,.slice p2 N2 c2] 76)
 have hb3:=hb2.trans (hl2.below.mono hb2.size)
 have HB3:=hl.below.trans (hb3.mono hl.below.size)
 have r0:=(hb3.block _ (ah hl.s0)).trans hl.s0
 have r1:=(hb3.block _ (ah hl.s1)).trans hl.s1
 have r2:=(hb3.block _ (ah hl.s2)).trans hl.s2
 have r3:=hl2.s0
 have hsz:=hl2.size
 have HG:=Ff (hd2.below hl2.below)
 have HD3:=Ff (HD.out.below hb3)
 have HE3:=Ff (HD'.out.below hb3)
 clear hl hl2 hb2 hb3 hz2 hd2 x0 x1 y0 y1 HD HD'
 have a0:=af r0 1
 have a1:=af r3 1
 go_upto_region 4 with fail
 generalize w2.alloc (.cells #[.bool false,.slice p2 N2 c2] 76)=w3 at *
 go_wp2_with fail
 refine (eF _ _ n (Nat.gcd n d) w3 HD3.out HG.out hgp HFN.out HFG.out).mono ?_
 rintro e w4 ⟨v4,v4',rfl,hq,_,hb4⟩
 have hlt3:w2.heap.size<w3.heap.size:=by omega
 have s1:=(hb4.block _ (ah r1)).trans r1
 have s2:=(hb4.block _ (ah r2)).trans r2
 have s3:=(hb4.block _ (ah r3)).trans r3
 have s0:=(hb4.block _ (ah r0)).trans r0
 have HG4:=Ff (HG.out.below hb4)
 have HE4:=Ff (HE3.out.below hb4)
 have HQ4:=Ff hq
 have HB4:=HB3.trans (hb4.mono HB3.size)
 clear r0 r1 r2 r3 a0 a1 HB3 hb4 HD3 HE3 HG hq
 have a1:=af s1 1
 have a3:=af s3 1
 have a0:=af s0 0
 go_wp2_with fail
 refine (eF _ _ d (Nat.gcd n d) w4 HE4.out HG4.out hgp HFD.out HFG.out).mono ?_
 rintro e w5 ⟨v5,v5',rfl,hq5,_,hb5⟩
 have s0':=(hb5.block _ (ah s0)).trans s0
 have s2':=(hb5.block _ (ah s2)).trans s2
 have HQ5:=Ff (HQ4.out.below hb5)
 have HP5:=Ff hq5
 have HB5:=HB4.trans (hb5.mono HB4.size)
 clear s0 s1 s2 s3 a0 a1 a3 HB4 hb5 HQ4 HG4 HE4 hq5
 have a0:=af s0' 0
 go_wp2_with fail
 refine (dF _ _ _ w5 HQ5.out (aO _).1).mono ?_
 rintro e w6 ⟨v6,rfl,hz6,hb6⟩
 rw[ay aF] at hz6
 obtain⟨p6,N6,c6,rfl,hN6,hNc6,hcm6,hd6⟩:=hz6.nat
 have HP6:=Ff (HP5.out.below hb6)
 have t2:=(hb6.block _ (ah s2')).trans s2'
 have HB6:=HB5.trans (hb6.mono HB5.size)
 have HD6:=Ff hd6
 clear a0 s0' s2' HP5 HQ5 HB5 hb6 hz6 hd6
 go_wp2_with fail
 refine (dF _ _ _ w6 HP6.out (aO _).1).mono ?_
 rintro e w7 ⟨v7,rfl,hz7,hb7⟩
 rw[ay aF] at hz7
 obtain⟨p7,N7,c7,rfl,hN7,hNc7,hcm7,hd7⟩:=hz7.nat
 have u2:=(hb7.block _ (ah t2)).trans t2
 have HB7:=HB6.trans (hb7.mono HB6.size)
 have hP:=a_ (u0:=.bool false) (u1:=.slice p6 N6 c6) (u2:=.bool false) (u3:=.slice p7 N7 c7) u2
 have hZ:Hid (dC (ej w7 (w.heap.size+1+1) (.bool false) (.slice p6 N6 c6) (.bool false) (.slice p7 N7 c7)) (.agg #[.bool false,.slice p6 N6 c6,.bool false,.slice p7 N7 c7]) (du false n d)):=by
  rw[HR.out]
  exact⟨_,_,rfl,hP.isI u2 bR (HD6.out.below hb7),hP.isI u2 bR hd7⟩
 have hB:=HB7.trans (hP.below w.heap.size (by omega))
 have q0:=af u2 0
 have q1:=af u2 1
 have q2:=af u2 2
 have q3:=af u2 3
 have f0:=frozen_of_row w7 (w.heap.size+1+1) 0 _ _ u2
 have f1:=frozen_of_row w7 (w.heap.size+1+1) 1 _ _ u2
 have f2:=frozen_of_row w7 (w.heap.size+1+1) 2 _ _ u2
 have f3:=frozen_of_row w7 (w.heap.size+1+1) 3 _ _ u2
 clear t2 HP6 HB6 hb7 hz7 hd7 HD6
 go_wp2_with fail
 (try simp only[Exit.inBlock,Exit.then])
 change bodyPost _ _ _ _ _ (ej w7 (w.heap.size+1+1) (.bool false) (.slice p6 N6 c6) (.bool false) (.slice p7 N7 c7))
 refine bodyPost_ret (results_cell_row rfl _ _ (w.heap.size+1+1) _ _ (0,0) _ rfl hP.row Tryz.underlying78 rfl (by kernel_rfl)) rfl ?_
 exact⟨_,rfl,hZ.out,hB⟩
theorem CM {d:Nat} (h:d<10):Utf8.encode (48+(d:Int))=⟨#[dg d]⟩:=by
 match d,h with
 | 0,_=>rfl
 | 1,_=>rfl
 | 2,_=>rfl
 | 3,_=>rfl
 | 4,_=>rfl
 | 5,_=>rfl
 | 6,_=>rfl
 | 7,_=>rfl
 | 8,_=>rfl
 | 9,_=>rfl
theorem mS.len {n m:Nat}{s:List UInt8} (h:mS n m s):s.length≤(dec n).length:=by
 rw[h.eq,Fv];omega
theorem jm (n:Nat) (hn:n<1000000000) (w:World) :
  Calls Tryz.prog 259 #[.int .i64 n] w fun e w'=>∃ t:ByteArray,e=.returned (.string t)∧Hid (t.data.toList=dec n)∧w'=w:=by
 have hdl:(dec n).length≤9:=bB (by omega) (by omega)
 by_cases h0:n=0
 ·subst h0
  go_enter Tryz.func259,Tryz.ntmps259
  go_wp2
  go_ret
  exact⟨_,rfl,by unfold Hid;rw[dO (by decide)];rfl,rfl⟩
 ·have hne:((n:Int) == 0)=false:=by simp;omega
  have hlt0:decide ((n:Int)<0)=false:=by simp
  have HP:Hid (0<n):=by unfold Hid;omega
  have HDL:=Ff hdl
  clear h0 hdl
  go_enter Tryz.func259,Tryz.ntmps259
  go_wp2
  go_loop [0,3] (fun s0 s3=>∃ (m:Nat) (t:ByteArray),s0=.int .i64 m∧m≤n∧s3=.string t∧Hid (mS n m t.data.toList)) (fun s0 _=>(intOf s0).toNat)
  case atStart=>exact⟨n,_,rfl,Fm _,rfl,su HP.out⟩
  case round =>
   obtain⟨m,t,rfl,hm,rfl,hst⟩:=hrel
   by_cases hm0:m=0
   ·subst hm0
    have hend:=Ff (yv hst.out)
    clear hst hne
    go_wp2
    go_ret
    exact⟨t,rfl,hend.out,rfl⟩
   ·have hmne:((m:Int) != 0)=true:=by simp;omega
    have hts:t.size≤9:=by
     have h1:=hst.out.len
     have h2:=HDL.out
     simp at h1;omega
    have hr:(m:Int).tmod 10=((m % 10:Nat):Int):=by rw[GG (by omega)];omega
    have hq:(m:Int).tdiv 10=((m / 10:Nat):Int):=by rw[Gn (by omega)];omega
    have hlt:decide ((m:Int).tmod 10<0)=false:=by rw[hr];exact decide_eq_false (by omega)
    have hlt2:decide ((m:Int) % 10<0)=false:=decide_eq_false (by omega)
    have hst2:=Ff (uK hst.out (show 0<m by omega))
    have henc:Utf8.encode (48+(m:Int) % 10)=⟨#[dg (m % 10)]⟩:=by
     have:=CM (show m % 10<10 by omega)
     rwa [show ((m % 10:Nat):Int)=(m:Int) % 10 by omega] at this
    clear hst hne
    go_wp2
    go_round
    case rel=>exact⟨m / 10,_,by go_num,by omega,rfl,by unfold Hid;have:=hst2.out;simpa using this⟩
    case measure=>simp[intOf];omega
theorem yu:(dec 0).length=1:=by rw[dO (by decide)];rfl
theorem fc {t:ByteArray}{l:List UInt8} (h:t.data.toList=l):t.size=l.length:=by rw[←h];simp
theorem vz (k:Nat):RR ^ k=10 ^ (4*k):=by rw[G5];rfl
theorem A2 (v:Value) (n:Nat) (w:World) (hv:IsD w v n) (hf:bg n) :
  Calls Tryz.prog 221 #[v] w fun e w'=>e=.returned (.int .i64 ((dec n).length:Nat))∧w'=w:=by
 obtain⟨p,cap,rfl,hlc,hcm,hcell⟩:=hv
 unfold bg at hf
 unfold maxLen at hcm
 have hcan:=aO n
 have hsz:Hid (0<(aq RR n).length→(dec n).length=4*((aq RR n).length-1)+(dec (nth (aq RR n) ((aq RR n).length-1))).length):=fun h=>by
  have:=zu hcan h
  rwa [ay aF] at this
 have hx:=b8 (j:=(aq RR n).length-1) hcan.1
 by_cases h0:(aq RR n).length=0
 ·have hn:n=0:=iI.1 h0
  subst hn
  have hd0:(((aq RR 0).length:Int) == 0)=true:=by rw[h0];rfl
  rw[yu]
  clear hcell hx h0
  go_enter Tryz.func221,Tryz.ntmps221
  go_wp2
  go_ret
  exact⟨rfl,rfl⟩
 ·obtain⟨b,o,rfl,hb,hc⟩:=hcell (by omega)
  have hc1:=hc ((aq RR n).length-1) (by omega)
  rw[hsz.out (by omega)]
  obtain⟨x,hxe⟩:∃ x,x=nth (aq RR n) ((aq RR n).length-1):=⟨_,rfl⟩
  rw[←hxe] at hc1 hx ⊢
  rw[gU] at hx
  have hd1:(dec x).length≤4:=bB (by omega) (by omega)
  obtain⟨N,hN⟩:∃ N,N=(aq RR n).length:=⟨_,rfl⟩
  rw[←hN] at hc1 h0 hlc hf ⊢
  have hd0:((N:Int) == 0)=false:=by simp;omega
  clear hcell hc hxe hN hsz hcan
  go_enter Tryz.func221,Tryz.ntmps221
  go_wp2_with fail
  refine (jm x (by omega) w).mono ?_
  rintro e w' ⟨t,rfl,ht,rfl⟩
  have hts:t.size=(dec x).length:=fc ht.out
  obtain⟨L,hL⟩:∃ L,L=(dec x).length:=⟨_,rfl⟩
  rw[←hL] at hts hd1
  have HL:=Ff hL
  have hfin:Hid (4*((N:Int)-1)+(L:Int)=((4*(N-1)+L:Nat):Int)):=by unfold Hid;omega
  clear hL
  go_wp2_with fail
  go_ret
  refine⟨?_,rfl⟩
  rw[←HL.out,←hfin.out]
  rfl
theorem Am {l:List Nat} (hl:∀ d∈l,d<RR) (hf:l.length<100000) (k:Nat):(dec (val RR (l.drop k))).length≤400004:=by
 have h1:=fz RR (l.drop k) (fun d hd=>hl d (Gr hd))
 rw[vz] at h1
 have h2:=bB (k:=4*(l.drop k).length+1) (by omega) (Fo h1 (FG (by omega) (by omega)))
 rw[FC] at h2
 omega
theorem AA {l:List Nat} (hl:CR l) {k:Nat} (hk:k<l.length):0<val RR (l.drop k):=by
 have hc:CR (l.drop k):=by
  refine⟨fun d hd=>hl.1 d (Gr hd),fun hne=>?_⟩
  rw[List.getLast_drop]
  exact hl.2 (FK.1 (by omega))
 have hne:l.drop k≠[]:=FK.1 (by rw[FC];omega)
 have:=eB hc hne
 have h4:0<RR ^ ((l.drop k).length-1):=GS (by decide)
 omega
theorem uL (v:Value) (n:Nat) (w:World) (hv:IsD w v n) (hf:bg n) :
  Calls Tryz.prog 258 #[v] w fun e w'=>∃ t:ByteArray,e=.returned (.string t)∧Hid (t.data.toList=dec n)∧t.size≤400004∧w'=w:=by
 obtain⟨p,cap,rfl,hlc,hcm,hcell⟩:=hv
 unfold bg at hf
 unfold maxLen at hcm
 have hcan:=Ff (aO n)
 have hval:=Ff (ay aF n)
 obtain⟨l,hle⟩:∃ l,l=aq RR n:=⟨_,rfl⟩
 rw[←hle] at hcan hval hcell hlc hf ⊢
 by_cases h0:l.length=0
 ·have hn:n=0:=by rw[hle] at h0;exact iI.1 h0
  subst hn
  have hd0:((l.length:Int) == 0)=true:=by rw[h0];rfl
  clear hcell h0 hle
  go_enter Tryz.func258,Tryz.ntmps258
  go_wp2
  go_ret
  exact⟨_,rfl,by unfold Hid;rw[dO (by decide)];rfl,by decide,rfl⟩
 ·clear hle
  obtain⟨b,o,rfl,hb,hc⟩:=hcell (by omega)
  have HC:=Ff hc
  have hc1:=hc (l.length-1) (by omega)
  have hx:=b8 (j:=l.length-1) hcan.out.1
  rw[gU] at hx
  have hxv:Hid (val RR (l.drop (l.length-1))=nth l (l.length-1)):=ua (by omega)
  obtain⟨x,hxe⟩:∃ x,x=nth l (l.length-1):=⟨_,rfl⟩
  rw[←hxe] at hc1 hx hxv
  have hd0:((l.length:Int) == 0)=false:=by simp;intro e;rw[e] at h0;exact h0 rfl
  have HP:0<l.length:=by omega
  have hsz:=Ff (fun k=>Am hcan.out.1 hf k)
  clear hcell hc hxe h0
  go_enter Tryz.func258,Tryz.ntmps258
  go_wp2_with fail
  refine (jm x (by omega) w).mono ?_
  rintro e w' ⟨t0,rfl,ht0,rfl⟩
  go_wp2_with fail
  go_loop [3,4] (fun s3 s4=>∃ (k:Nat) (t:ByteArray),k<l.length∧s3=.string t∧s4=.int .i64 ((k:Int)-1)∧Hid (t.data.toList=dec (val RR (l.drop k)))) (fun _ s4=>(intOf s4+1).toNat)
  case atStart=>exact⟨l.length-1,t0,by omega,rfl,by go_num,by unfold Hid;rw[hxv.out];exact ht0.out⟩
  case round =>
   clear hc1
   obtain⟨k,t,hk,rfl,rfl,ht⟩:=hrel
   have hts:t.size≤400004:=by
    have h1:=fc ht.out
    have h2:=hsz.out k
    omega
   by_cases hk0:k=0
   ·subst hk0
    go_wp2
    go_ret
    exact⟨t,rfl,by have:=ht.out;rw[Fr,hval.out] at this;exact this,hts,rfl⟩
   ·have hge:decide ((0:Int)≤(k:Int)-1)=true:=by simp;omega
    have hc2:=HC.out (k-1) (by omega)
    have hy:=b8 (j:=k-1) hcan.out.1
    have hstep:Hid (dec (val RR (l.drop (k-1)))=dec (val RR (l.drop k))++low 4 (nth l (k-1))):=sj hcan.out.1 (by omega) (by omega) (AA hcan.out hk)
    have hrad:Hid (dec (RR+nth l (k-1))=49 :: low 4 (nth l (k-1))):=yt hy
    rw[gU] at hy hrad
    obtain⟨y,hye⟩:∃ y,y=nth l (k-1):=⟨_,rfl⟩
    rw[←hye] at hc2 hy hstep hrad
    clear hye
    go_wp2_with fail
    refine (jm (10000+y) (by omega) _).mono ?_
    rintro e w2 ⟨t2,rfl,ht2,rfl⟩
    have ht2l:=ht2.out
    rw[hrad.out] at ht2l
    have hs2:t2.size=5:=by have:=fc ht2l;rw[FH,iS] at this;exact this
    have HT2:=Ff ht2l
    clear ht2l hc2
    go_wp2
    go_round
    case rel=>exact⟨k-1,_,by omega,rfl,by go_num,by
     have h1:=HT2.out
     unfold Hid
     rw[hstep.out,←ht.out]
     simp[h1]
     exact Fu (by rw[iS];omega)⟩
    case measure=>simp[intOf];omega
end Go.Proofs.YtbnkpcfjechfiaaGreatDoor
