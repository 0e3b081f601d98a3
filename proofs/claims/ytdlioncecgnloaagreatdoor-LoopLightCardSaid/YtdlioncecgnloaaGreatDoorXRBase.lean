/- Lemmas of this claim. -/
import Derived.Test.YtdlioncecgnloaaGreatDoorXMach
import Derived.Test.YtdlioncecgnloaaGreatDoorXNat
import Derived.Test.YtdlioncecgnloaaGreatDoorXGet
import Derived.Test.YtdlioncecgnloaaGreatDoorXNQ
import Derived.Test.YtdlioncecgnloaaGreatDoorXCoef
set_option linter.all false
set_option maxRecDepth 100000
set_option maxHeartbeats 8000000
namespace Go.Proofs.YtdlioncecgnloaaGreatDoor
open Go.RowKit
def i64s (l:List Nat):List Value:=l.map fun (d:Nat)=>Value.int .i64 (d:Int)
def AX (w:World) (g cap:Nat) (l:List Nat):Prop:=w.ownsRow g 3 1 (.slice (some ⟨g,0,none⟩) l.length cap) l.length (i64s l)
theorem AX.drewN {w:World}{g cap:Nat}{l:List Nat} (h:AX w g cap l) (n:Nat):AX (w.drewN n) g cap l:=h
open Go.RowKit Dg
def RR:Nat:=10000
open Dg
theorem dt (d:Nat) (l:List Nat):val RR (d :: l)=d+RR*val RR l:=rfl
open Dg Dc
/-! ### reading -/
/-- how many digits a text begins with, m at most -/
def mV:List UInt8→Nat→Nat
 | [],_=>0
 | _ :: _,0=>0
 | c :: s,m+1=>if bK c then mV s m+1 else 0
def ll (s:List UInt8):Nat×List UInt8:=(aT (s.take (mV s 2001)),s.drop (mV s 2001))
def j3 (s:List UInt8):Rt×List UInt8 :=
 if mV s 2001=0 then (⟨false,1,1⟩,s)
 else if (ll s).2.head?=some 47∧(ll ((ll s).2.drop 1)).1≠0 then (dl false (ll s).1 (ll ((ll s).2.drop 1)).1,(ll ((ll s).2.drop 1)).2)
 else (⟨false,(ll s).1,1⟩,(ll s).2)
def Ak (r:Rt):Rt:=⟨!r.minus&&decide (r.n≠0),r.n,r.d⟩
def gX (s:List UInt8):Rt×List UInt8 :=
 if s.head?=some 45 then (Ak (j3 (s.drop 1)).1,(j3 (s.drop 1)).2)
 else if s.head?=some 43 then j3 (s.drop 1) else j3 s
def mB:Rt:=⟨false,0,1⟩
def jg (s:List UInt8):Vl :=
 if (gX s).2=[105] then ⟨mB,(gX s).1⟩
 else if (gX s).2=[] then ⟨(gX s).1,mB⟩
 else ⟨(gX s).1,(gX (gX s).2).1⟩
def rOK (s:List UInt8):Bool:=decide (cJ (jg s)=s)&&!(df (jg s).x||df (jg s).y)
def yU (s:List UInt8):Bool:=rOK s&&decide ((jg s).y.n=0)
def tg (r:Rt):Bool:=decide (r.n≤4096)&&decide (r.d≤4096)
structure fP (r:Rt):Prop where
 pos:0<r.d
 gcd:Nat.gcd r.n r.d=1
 sign:r.minus=true→r.n≠0
theorem lS {mi:Bool}{n d:Nat} (h:0<d):fP (dl mi n d):=by
 unfold dl
 split
 ·exact⟨by decide,by decide,fun h=>by cases h⟩
 ·rename_i hn
  have hg:0<Nat.gcd n d:=DT _ h
  refine⟨ER (EK _ h) hg,?_,fun _=>?_⟩
  ·rw[Nat.gcd_div (EJ ..) (Nat.gcd_dvd_right ..),Nat.div_self hg]
  have:0<n / Nat.gcd n d:=ER (Nat.le_of_dvd (by omega) (EJ ..)) hg
  show n / Nat.gcd n d≠0
  omega
theorem lR (n:Nat):fP ⟨false,n,1⟩:=⟨Nat.one_pos,Nat.gcd_one_right n,fun h=>by cases h⟩
theorem xw {r:Rt} (h:fP r):fP (Ak r):=⟨h.pos,h.gcd,fun hm=>by unfold Ak at hm;simp at hm;exact hm.2⟩
theorem nm (s:List UInt8):fP (j3 s).1:=by
 unfold j3
 split
 ·exact lR 1
 ·split
  ·rename_i h;exact lS (by have:=h.2;omega)
  ·exact lR _
theorem iJ (s:List UInt8):fP (gX s).1:=by
 unfold gX
 split
 ·exact xw (nm _)
 ·split<;>exact nm _
theorem np:fP mB:=lR 0
theorem qu7 (s:List UInt8):fP (jg s).x∧fP (jg s).y:=by
 unfold jg
 split
 ·exact⟨np,iJ _⟩
 ·split
  ·exact⟨iJ _,np⟩
  ·exact⟨iJ _,iJ _⟩
theorem eA {s:List UInt8}{r:Rt} (h:bW s=some r):fP r:=by
 unfold bW at h
 split at h
 ·cases h
 ·split at h
  ·split at h
   ·cases h
   ·split at h
    ·cases h
    ·rename_i h0;injection h with h;subst h;exact lS (by omega)
  ·injection h with h;subst h;exact lS (by decide)
theorem lG {r:Rt} (h:fP r):dl r.minus r.n r.d=r:=by
 obtain⟨m,n,d⟩:=r
 have h1:=h.pos
 have h2:=h.gcd
 have h3:=h.sign
 simp only at h1 h2 h3 ⊢
 unfold dl
 rw[h2,EP,EP]
 split
 ·rename_i h0
  subst h0
  rw[Nat.gcd_zero_left] at h2
  cases m
  ·rw[h2]
  ·exact absurd rfl (h3 rfl)
 ·rfl
/-! ### texts of digits -/
theorem qo (n:Nat):∃ c r,dec n=c :: r∧bK c=true:=by
 cases h:dec n with
 | nil=>exact absurd h (fh n)
 | cons c r =>
  have:=dx n
  rw[h,Eo,CC] at this
  exact⟨c,r,rfl,this.1⟩
theorem ij {c:UInt8} (h:bK c=true):c≠43∧c≠45∧c≠47∧c≠105:=by
 unfold bK at h
 simp only[CC,decide_eq_true_eq] at h
 refine⟨?_,?_,?_,?_⟩<;>(intro e;subst e;revert h;decide)
theorem qj:∀ (l t:List UInt8) (m:Nat),l.all bK=true→l.length≤m→(∀ c,t.head?=some c→bK c=false)→mV (l++t) m=l.length
 | [],[],m,_,_,_=>by simp[mV]
 | [],c :: t,0,_,_,_=>by simp[mV]
 | [],c :: t,m+1,_,_,h=>by
  have:=h c rfl
  simp[mV,this]
 | c :: l,t,0,_,h,_=>by simp at h
 | c :: l,t,m+1,ha,hl,h=>by
  rw[Eo,CC] at ha
  rw[CN,mV,if_pos ha.1,qj l t m ha.2 (by simpa using hl) h];rfl
theorem mw {n:Nat}{t:List UInt8} (hl:(dec n).length≤2001) (h:∀ c,t.head?=some c→bK c=false):ll (dec n++t)=(n,t)∧mV (dec n++t) 2001=(dec n).length:=by
 have e:=qj (dec n) t 2001 (dx n) hl h
 refine⟨?_,e⟩
 unfold ll
 rw[e,Ev,List.drop_left',jo]<;>rfl
def ez (r:Rt):List UInt8:=dec r.n++(if 1<r.d then 47 :: dec r.d else [])
theorem fd (r:Rt):aN r=(if r.minus then [45] else [])++ez r:=by unfold aN ez;rw[CV]
theorem lP {r:Rt} (h:df r=false):(dec r.n).length≤2000∧(dec r.d).length≤2000:=by
 unfold df at h
 simp only[Dy,decide_eq_false_iff_not] at h
 omega
theorem jE (r:Rt):∃ c t,ez r=c :: t∧bK c=true:=by
 obtain⟨c,t,h1,h2⟩:=qo r.n
 exact⟨c,t++_,by unfold ez;rw[h1];rfl,h2⟩
theorem wA {r:Rt} (h:fP r) (hb:df r=false):j3 (ez r)=(⟨false,r.n,r.d⟩,[]):=by
 obtain⟨h1,h2⟩:=lP hb
 have hp:=fg r.n
 have hpos:=h.pos
 unfold ez
 split
 ·rename_i hd
  obtain⟨e1,e2⟩:=mw (n:=r.n) (t:=47 :: dec r.d) (by omega) (fun c hc=>by simp at hc;subst hc;decide)
  obtain⟨e3,_⟩:=mw (n:=r.d) (t:=[]) (by omega) (fun c hc=>by cases hc)
  rw[C2] at e3
  unfold j3
  rw[e2,if_neg (by omega),e1]
  simp only[EL,List.drop_one,List.tail_cons]
  rw[e3,if_pos ⟨by simp,by show r.d≠0;omega⟩]
  have:=lG (r:=⟨false,r.n,r.d⟩) ⟨h.pos,h.gcd,fun h=>by cases h⟩
  rw[this]
 ·rename_i hd
  obtain⟨e1,e2⟩:=mw (n:=r.n) (t:=[]) (by omega) (fun c hc=>by cases hc)
  rw[show r.d=1 by omega]
  unfold j3
  rw[e2,if_neg (by omega),e1]
  rfl
theorem sZ {r:Rt} (h:fP r) (hb:df r=false):gX (aN r)=(r,[]):=by
 rw[fd]
 have hp:=wA h hb
 obtain⟨c,t,e1,e2⟩:=jE r
 obtain⟨m,n,d⟩:=r
 cases m
 ·simp only[CA,if_false,CH]
  obtain⟨n1,n2,_⟩:=ij e2
  unfold gX
  rw[e1] at hp ⊢
  simp only[EL,Option.some.injEq]
  rw[if_neg n2,if_neg n1];exact hp
 ·simp only[if_true]
  have hs:=h.sign rfl
  simp only at hs
  unfold gX
  simp only[CN,CH,EL,if_true,List.drop_one,List.tail_cons]
  rw[hp]
  unfold Ak
  simp[hs]
theorem sY {r:Rt} (h:fP r) (hb:df r=false):jg (aN r)=⟨r,mB⟩:=by
 unfold jg
 rw[sZ h hb]
 simp
theorem cw {z:Vl} (h:z.y.n=0):cJ z=aN z.x:=by unfold cJ;rw[if_pos h]
/-! ### the program's reading of such a text -/
theorem mX {l:List UInt8}{c d:UInt8} (h:c≠d):Lib.hasSuffix (l++[c]) [d]=false:=by
 unfold Lib.hasSuffix
 rw[C8]
 intro he
 rw[EF] at he
 obtain⟨t,ht⟩:=he
 have:=List.append_inj_right' ht rfl
 simp at this
 exact h this.symm
theorem qq (n:Nat):∃ l c,dec n=l++[c]∧bK c=true:=by
 have hne:=fh n
 have:=EC hne
 exact⟨_,_,this.symm,Cz.1 (dx n) _ (List.getLast_mem hne)⟩
theorem wM (r:Rt):∃ l c,aN r=l++[c]∧bK c=true:=by
 rw[fd]
 unfold ez
 by_cases hd:1<r.d
 all_goals first | rw[if_pos hd] | rw[if_neg hd]
 ·obtain⟨l,c,h1,h2⟩:=qq r.d
  exact⟨(if r.minus then [45] else [])++(dec r.n++47 :: l),c,by rw[h1];simp only[CV,CN],h2⟩
 ·obtain⟨l,c,h1,h2⟩:=qq r.n
  exact⟨(if r.minus then [45] else [])++l,c,by rw[h1];simp only[CV,C2],h2⟩
theorem sV (r:Rt):eM (aN r)=(aN r,[48]):=by
 obtain⟨l,c,h1,h2⟩:=wM r
 have:Lib.hasSuffix (aN r) [105]=false:=by rw[h1];exact mX (ij h2).2.2.2
 unfold eM
 rw[this];rfl
theorem gO (c d:UInt8) (l:List UInt8):Lib.hasPrefix (c :: l) [d]=decide (c=d):=by
 unfold Lib.hasPrefix
 rw[Bool.eq_iff_iff,EE]
 simp[List.cons_prefix_cons,eq_comm]
theorem od (r:Rt):Lib.trimPrefix (aN r) [45]=ez r∧Lib.hasPrefix (aN r) [45]=r.minus:=by
 rw[fd]
 obtain⟨c,t,e1,e2⟩:=jE r
 unfold Lib.trimPrefix
 cases r.minus
 ·simp only[CA,if_false,CH]
  rw[e1,gO,decide_eq_false (ij e2).2.1]
  exact⟨rfl,rfl⟩
 ·simp only[if_true,CN,CH]
  rw[gO,decide_eq_true rfl]
  exact⟨rfl,rfl⟩
theorem pj {s:List UInt8}{d:UInt8}{i:Nat}:Lib.occAt s [d] i=true↔s[i]?=some d:=by
 unfold Lib.occAt
 rw[EE]
 constructor
 ·rintro⟨t,ht⟩
  have:(s.drop i)[0]?=some d:=by rw[←ht];rfl
  rw[DY] at this
  simpa using this
 ·intro h
  obtain⟨hi,e⟩:=Dd.1 h
  exact⟨s.drop (i+1),by rw[Db hi,e];rfl⟩
theorem jr {s:List UInt8}{d:UInt8} (h:d∉s):Lib.index s [d]=-1:=by
 refine Lib.index_none (fun j _=>?_)
 rw[C8]
 intro he
 exact h (DN (pj.1 he))
theorem nD {l t:List UInt8}{d:UInt8} (h:d∉l):Lib.index (l++d :: t) [d]=l.length:=by
 refine Lib.index_first (by simp) (pj.2 (by simp)) (fun j hj=>?_)
 rw[C8]
 intro he
 have:=pj.1 he
 rw[DM hj] at this
 exact h (DN this)
theorem ir {l:List UInt8} (h:l.all bK=true):(47:UInt8)∉l:=fun hm=>(ij (Cz.1 h _ hm)).2.2.1 rfl
theorem ip (n:Nat):bS (dec n)=some n:=by
 unfold bS
 rw[if_pos ⟨fh n,dx n⟩,jo]
theorem iw {r:Rt} (h:fP r):bW (aN r)=some r:=by
 obtain⟨e1,e2⟩:=od r
 have hpos:=h.pos
 unfold bW
 rw[e1,e2]
 unfold ez Lib.cut
 by_cases hd:1<r.d
 all_goals first | rw[if_pos hd] | rw[if_neg hd]
 ·rw[nD (ir (dx r.n)),if_pos (by omega)]
  simp only[EH]
  rw[Ev rfl,ip]
  simp only[if_true]
  have:(dec r.n++47 :: dec r.d).drop ((dec r.n).length+([47]:List UInt8).length)=dec r.d:=by simp[List.drop_append]
  rw[this,ip]
  simp only
  rw[if_neg (by omega),lG h]
 ·rw[C2,jr (ir (dx r.n)),if_neg (by omega)]
  simp only
  rw[ip]
  simp only[CA,if_false]
  have hd1:r.d=1:=by omega
  have:=lG h
  rw[hd1] at this
  rw[this]
theorem mM {r:Rt} (hb:df r=false):(aN r).length≤4002:=by
 obtain⟨h1,h2⟩:=lP hb
 rw[fd]
 unfold ez
 rw[Cq,Cq]
 split<;>split<;>simp<;>omega
theorem qE {r:Rt} (h:fP r) (hb:df r=false):fm (aN r)=some ⟨r,mB⟩:=by
 have hl:=mM hb
 unfold fm
 rw[if_neg (by omega),sV,iw h]
 simp only
 rw[kP]
 simp only
 rw[if_pos ⟨cw rfl,hb,iW⟩];rfl
theorem yV (s:List UInt8):(gq s=true↔∃ r,fP r∧df r=false∧s=aN r)∧(yU s=true↔∃ r,fP r∧df r=false∧s=aN r):=by
 refine⟨⟨fun h=>?_,?_⟩,⟨fun h=>?_,?_⟩⟩
 ·unfold gq at h
  cases hg:fm s with
  | none=>rw[hg] at h;cases h
  | some z =>
   rw[hg] at h
   have hy:=of_decide_eq_true h
   unfold fm at hg
   split at hg
   ·cases hg
   ·split at hg
    ·rename_i p q hp hq
     split at hg
     ·rename_i hc
      injection hg with hg
      subst hg
      refine⟨p,eA hp,hc.2.1,?_⟩
      rw[←hc.1]
      exact cw hy
     ·cases hg
    ·cases hg
 ·rintro⟨r,h1,h2,rfl⟩
  unfold gq
  rw[qE h1 h2];rfl
 ·unfold yU rOK at h
  simp only[CC,decide_eq_true_eq,Bool.not_eq_true',Dy] at h
  exact⟨(jg s).x,(qu7 s).1,h.1.2.1,by rw[←cw h.2];exact h.1.1.symm⟩
 ·rintro⟨r,h1,h2,rfl⟩
  unfold yU rOK
  rw[sY h1 h2,cw rfl]
  simp[h2,iW,show df mB=false from iW,show mB.n=0 from rfl]
/-! ### short parts -/
theorem qm (c:UInt8) (l:List UInt8):aT (c :: l)=(c.toNat-48)*10 ^ l.length+aT l:=by
 have:=ef [c] l
 rw[D7] at this
 rw[this]
 simp[aT]
theorem mq:∀ (l:List UInt8) (acc:Nat),l.all bK=true→acc<18446744073709551616 →
  Lib.parseUint10 acc l=if acc*10 ^ l.length+aT l<18446744073709551616 then .ok (acc*10 ^ l.length+aT l) else .range
 | [],acc,_,h=>by simp[Lib.parseUint10,aT,h]
 | c :: l,acc,ha,h=>by
  rw[Eo,CC] at ha
  have hc:48≤c.toNat∧c.toNat≤57:=by have:=ha.1;unfold bK at this;simpa using this
  have e:acc*10 ^ (c :: l).length+aT (c :: l)=(acc*10+(c.toNat-48))*10 ^ l.length+aT l:=by
   rw[qm,CK,Cx];grind
  have hpow:0<10 ^ l.length:=C9 (by decide)
  have hge:acc*10+(c.toNat-48)≤(acc*10+(c.toNat-48))*10 ^ l.length:=Nat.le_mul_of_pos_right _ hpow
  rw[Lib.parseUint10,if_pos hc,e]
  split
  ·rw[if_neg (by omega)]
  ·split
   ·rw[if_neg (by omega)]
   ·exact mq l _ ha.2 (by omega)
theorem ri (n:Nat):gh (dec n)=decide (n≤4096):=by
 obtain⟨c,t,e1,e2⟩:=qo n
 have hc:48≤c.toNat∧c.toNat≤57:=by have:=e2;unfold bK at this;simpa using this
 have hp:=mq (dec n) 0 (dx n) (by decide)
 rw[jo,Ds,C5] at hp
 unfold gh Lib.atoiAll
 rw[e1]
 simp only
 rw[if_neg (by omega),←e1]
 unfold Lib.parseMag
 rw[if_neg (fh n),hp]
 by_cases h1:n<18446744073709551616
 ·rw[if_pos h1]
  simp only
  have hn:¬ c.toNat=45:=by omega
  by_cases h2:9223372036854775808≤n
  ·simp[hn,h2];omega
  ·simp[hn,h2];omega
 ·rw[if_neg h1]
  simp
  omega
theorem wF (r:Rt) (h:0<r.d):(d9 ⟨(ez r).toArray⟩).all (fun p=>gh p.data.toList)=tg r:=by
 have e:(d9 ⟨(ez r).toArray⟩).all (fun p=>gh p.data.toList)=(Lib.splitK [47] 0 (Lib.count (ez r) [47]) (ez r)).all gh:=by
  have:=Lib.splitB_data ⟨#[47]⟩ 0 (Lib.countB ⟨(ez r).toArray⟩ ⟨#[47]⟩) ⟨(ez r).toArray⟩
  have e2:Lib.countB ⟨(ez r).toArray⟩ ⟨#[47]⟩=Lib.count (ez r) [47]:=by unfold Lib.countB;simp
  rw[e2] at this
  unfold d9
  rw[e2]
  simp only[EB] at this
  rw[←this,List.all_map];rfl
 rw[e]
 unfold ez tg
 split
 ·have h1:=nD (t:=dec r.d) (ir (dx r.n))
  have h2:=jr (ir (dx r.d))
  have e3:(dec r.n++47 :: dec r.d).drop ((dec r.n).length+([47]:List UInt8).length)=dec r.d:=by simp[List.drop_append]
  rw[Lib.count_hit (by simp) h1,e3,Lib.count_miss h2]
  show (Lib.splitK [47] 0 (0+1) _).all gh=_
  rw[Lib.splitK,if_neg (by rw[h1];simp),h1]
  simp only[EH,CZ]
  rw[e3,Ev rfl]
  simp[Lib.splitK,ri]
 ·rw[C2,Lib.count_miss (jr (ir (dx r.n)))]
  simp only[Lib.splitK,Eo,List.all_nil,Bool.and_true,ri]
  rw[show r.d=1 by omega];simp
open Go.RowKit Dg Dc
def toQ (r:Rt):Rat:=mkRat (sgz r.minus r.n) r.d
theorem y6 {r:Rt} (h:fP r):rt (toQ r)=r:=by unfold toQ;rw[←lF _ _ _ h.pos,lG h]
theorem tu (q:Rat):toQ (rt q)=q:=by
 unfold toQ
 rw[mJ]
 exact Rat.mkRat_self q
theorem lA (q:Rat):fP (rt q):=⟨q.den_pos,q.reduced,fun h=>by
 unfold rt at h ⊢
 simp only[decide_eq_true_eq] at h ⊢
 omega⟩
def dI (z:CQ):Bool:=df (rt z.re)||df (rt z.im)
def txt (z:CQ):ByteArray:=⟨(cJ (ct z)).toArray⟩
def dM (s:ByteArray):Option CQ:=(fm s.data.toList).map fun z=>⟨toQ z.x,toQ z.y⟩
def cA (z:CQ):ByteArray×Int:=if dI z=true then (⟨#[]⟩,11) else (txt z,0)
theorem gF {s:ByteArray}{l:List UInt8} (h:s.data.toList=l):s=⟨l.toArray⟩:=by
 obtain⟨⟨d⟩⟩:=s
 simp only at h
 rw[h]
theorem xt {r:Rt} (hb:df r=false) (hp:0<r.d):Sz 2000 r:=by
 obtain⟨h1,h2⟩:=lP hb
 refine⟨?_,hp,?_⟩
 ·exact Nat.lt_of_not_le fun h=>by have:=jb h;omega
 ·exact Nat.lt_of_not_le fun h=>by have:=jb h;omega
theorem gK {s:ByteArray}{z:Vl} (h:fm s.data.toList=some z):∃ q,z=ct q∧dM s=some q∧SzV 2000 (ct q)∧dI q=false∧txt q=s:=by
 have h':=h
 unfold fm at h
 split at h
 ·cases h
 ·split at h
  ·rename_i p q hp hq
   split at h
   ·rename_i hc
    injection h with h
    subst h
    have e1:=y6 (eA hp)
    have e2:=y6 (eA hq)
    have e:(⟨p,q⟩:Vl)=ct ⟨toQ p,toQ q⟩:=by unfold ct;rw[e1,e2]
    refine⟨⟨toQ p,toQ q⟩,e,by unfold dM;rw[h'];rfl,?_,?_,?_⟩
    ·rw[←e];exact⟨xt hc.2.1 (eA hp).pos,xt hc.2.2 (eA hq).pos⟩
    ·unfold dI;simp only;rw[e1,e2,hc.2.1,hc.2.2];rfl
    ·unfold txt;rw[←e,hc.1]
   ·cases h
  ·cases h
theorem e_ {s:ByteArray} (h:fm s.data.toList=none):dM s=none:=by unfold dM;rw[h];rfl
theorem nA {q:Rat} (h:dI (CQ.real q)=false):dM (txt (CQ.real q))=some (CQ.real q):=by
 have h1:df (rt q)=false:=by unfold dI CQ.real at h;simp only[Dy] at h;exact h.1
 have e:cJ (ct (CQ.real q))=aN (rt q):=cw (z:=ct (CQ.real q)) (by show (rt 0).n=0;rw[eu])
 unfold dM txt
 simp only[EB]
 rw[e,qE (lA q) h1]
 simp only[Ey,tu]
 congr 1
theorem qC {s:ByteArray}{z:CQ} (h:dM s=some z):dI z=false∧txt z=s∧SzV 2000 (ct z):=by
 cases hg:fm s.data.toList with
 | none=>rw[e_ hg] at h;cases h
 | some y =>
  obtain⟨q,-,h1,h2,h3,h4⟩:=gK hg
  rw[h1] at h
  injection h with h
  subst h
  exact⟨h3,h4,h2⟩
def aM (φ:CQ→CQ→CQ×Int) (s t:ByteArray):ByteArray×Int :=
 match dM s,dM t with
 | some a,some b=>if (φ a b).2=0 then cA (φ a b).1 else (⟨#[]⟩,(φ a b).2)
 | _,_=>(⟨#[]⟩,10)
def bE (f:CQ→CQ→CQ) (a b:CQ):CQ×Int:=(f a b,0)
def oR (a b:CQ):CQ×Int:=if b=⟨0,0⟩ then (⟨0,0⟩,12) else (a.div b,0)
def dV (s t:ByteArray):ByteArray:=(aM (bE CQ.add) s t).1
def dh (s t:ByteArray):ByteArray:=(aM (bE CQ.sub) s t).1
def bu (s t:ByteArray):ByteArray:=(aM (bE CQ.mul) s t).1
def aR (s t:ByteArray):ByteArray:=(aM oR s t).1
theorem zG (va:Value) (u:Vl) (w:World) (ha:IsV w va u) :
  Calls Tryz.prog 207 #[va] w fun e w'=>e=.returned (.bool (decide (u.x.n=0∧u.y.n=0)))∧Below w.heap.size w w':=by
 obtain⟨a,b,c,d,e,f,rfl,hx,hy⟩:=ha
 have hb0:=ae w (.cells #[a,b,c,d,e,f] 91)
 have HB:=BZ hb0
 have H1:=BZ (fD _ _ _ (hx.below hb0))
 have H2:=BZ (fun wx (hw:Below (w.alloc (.cells #[a,b,c,d,e,f] 91)).heap.size (w.alloc (.cells #[a,b,c,d,e,f] 91)) wx)=>fD _ _ _ ((hy.below hb0).below hw))
 have q1:=bk.new w a b c d e f 91
 clear hb0
 go_enter Tryz.func207,Tryz.ntmps207
 go_upto_region 1 with fail
 generalize w.alloc (.cells #[a,b,c,d,e,f] 91)=w1 at *
 have a0:=q1.c0;have a1:=q1.c1;have a2:=q1.c2;have a3:=q1.c3;have a4:=q1.c4;have a5:=q1.c5
 by_cases h:u.x.n=0
 ·rw[decide_eq_true h] at H1
  go_wp2_with fail
  refine H1.out.mono ?_
  rintro e w2 ⟨rfl,hb2⟩
  have q2:=q1.below hb2
  have c0:=q2.c0;have c1:=q2.c1;have c2:=q2.c2;have c3:=q2.c3;have c4:=q2.c4;have c5:=q2.c5
  clear a0 a1 a2 a3 a4 a5
  go_wp2_with fail
  refine (H2.out w2 hb2).mono ?_
  rintro e w3 ⟨rfl,hb3⟩
  go_wp2
  go_ret
  exact⟨by simp[h],HB.out.trans ((hb2.trans (hb3.mono hb2.size)).mono HB.out.size)⟩
 ·rw[decide_eq_false h] at H1
  go_wp2_with fail
  refine H1.out.mono ?_
  rintro e w2 ⟨rfl,hb2⟩
  go_wp2
  go_ret
  exact⟨by simp[h],HB.out.trans (hb2.mono HB.out.size)⟩
theorem wm (va:Value) (z:CQ) (w:World) (ha:IsV w va (ct z)) (hG:Gw w) :
  Calls Tryz.prog 134 #[va] w fun e w'=>e=.returned (.tuple #[.string (cA z).1,.int .i64 (cA z).2])∧Below w.heap.size w w':=by
 have ha0:=ha
 obtain⟨a,b,c,d,e,f,rfl,hx,hy⟩:=ha
 have hb0:=ae w (.cells #[a,b,c,d,e,f] 91)
 have HB:=BZ hb0
 have H1:=BZ (oJ _ _ _ (hx.below hb0) (hG.below hb0))
 have H2:=BZ (fun wx (hw:Below (w.alloc (.cells #[a,b,c,d,e,f] 91)).heap.size (w.alloc (.cells #[a,b,c,d,e,f] 91)) wx)=>oJ _ _ _ ((hy.below hb0).below hw) ((hG.below hb0).below hw))
 have H3:=BZ (fun wx (hw:Below (w.alloc (.cells #[a,b,c,d,e,f] 91)).heap.size (w.alloc (.cells #[a,b,c,d,e,f] 91)) wx)=>oh _ _ _ ((ha0.below hb0).below hw) (dF _) (dF _) ((hG.below hb0).below hw))
 have q1:=bk.new w a b c d e f 91
 clear hb0 ha0 hx hy
 go_enter Tryz.func134,Tryz.ntmps134
 go_upto_region 1 with fail
 generalize w.alloc (.cells #[a,b,c,d,e,f] 91)=w1 at *
 have a0:=q1.c0;have a1:=q1.c1;have a2:=q1.c2;have a3:=q1.c3;have a4:=q1.c4;have a5:=q1.c5
 by_cases h:df (rt z.re)=true
 ·rw[show df (ct z).x=true from h] at H1
  go_wp2_with fail
  refine H1.out.mono ?_
  rintro e w2 ⟨rfl,hb2⟩
  have hp:cA z=(⟨#[]⟩,11):=by unfold cA dI;rw[h];rfl
  go_wp2
  refine bodyPost_ret (v:=.tuple #[.string ⟨#[]⟩,.int .i64 11]) (by simp[results,Tryz.results134,go_sem]) rfl ⟨by rw[hp],HB.out.trans (hb2.mono HB.out.size)⟩
 ·rw[show df (ct z).x=false from C8.2 h] at H1
  go_wp2_with fail
  refine H1.out.mono ?_
  rintro e w2 ⟨rfl,hb2⟩
  have q2:=q1.below hb2
  have c0:=q2.c0;have c1:=q2.c1;have c2:=q2.c2;have c3:=q2.c3;have c4:=q2.c4;have c5:=q2.c5
  clear a0 a1 a2 a3 a4 a5
  have H2:=BZ (H2.out w2 hb2)
  by_cases h2:df (rt z.im)=true
  ·rw[show df (ct z).y=true from h2] at H2
   go_wp2_with fail
   refine H2.out.mono ?_
   rintro e w3 ⟨rfl,hb3⟩
   have hp:cA z=(⟨#[]⟩,11):=by unfold cA dI;rw[h2];simp
   go_wp2
   refine bodyPost_ret (v:=.tuple #[.string ⟨#[]⟩,.int .i64 11]) (by simp[results,Tryz.results134,go_sem]) rfl ⟨by rw[hp],HB.out.trans ((hb2.trans (hb3.mono hb2.size)).mono HB.out.size)⟩
  ·rw[show df (ct z).y=false from C8.2 h2] at H2
   go_wp2_with fail
   refine H2.out.mono ?_
   rintro e w3 ⟨rfl,hb3⟩
   have hB3:=hb2.trans (hb3.mono hb2.size)
   have q3:=q1.below hB3
   have d0:=q3.c0;have d1:=q3.c1;have d2:=q3.c2;have d3:=q3.c3;have d4:=q3.c4;have d5:=q3.c5
   clear c0 c1 c2 c3 c4 c5
   have hp:cA z=(txt z,0):=by unfold cA dI;rw[if_neg (by simpa using ⟨by simpa using h,by simpa using h2⟩)]
   have HP:=BZ hp
   clear hp
   go_wp2_with fail
   refine (H3.out w3 hB3).mono ?_
   rintro e w4 ⟨t,rfl,ht,-,hb4⟩
   go_wp2
   refine bodyPost_ret (v:=.tuple #[.string t,.int .i64 0]) (by simp[results,Tryz.results134,go_sem]) rfl ⟨?_,HB.out.trans ((hB3.trans (hb4.mono hB3.size)).mono HB.out.size)⟩
   rw[HP.out]
   have:t=txt z:=gF ht.out
   rw[this]
theorem cU {a b c a' b' c':Value} (h:Value.agg #[a,b,c]=.agg #[a',b',c']):a=a'∧b=b'∧c=c':=by simpa using h
structure AU (F:FuncId) (cap:Array Value) (φ:CQ→CQ→CQ×Int) (w:World):Prop where
 en:∀ (args:Array Value) (w:World),(callFunc F args).run Tryz.prog w=.ok (.enter F args) w
 on:∀ (x y:Value) (a b:CQ) (w':World),Below w.heap.size w w'→IsK w' x a→IsK w' y b→Calls Tryz.prog F (#[x,y]++cap) w' fun e w''=>∃ v z,e=.returned (.tuple #[v,.int .i64 (φ a b).2])∧IsV w'' v z∧((φ a b).2=0→z=ct (φ a b).1)∧Below w'.heap.size w' w''
theorem tI (F:FuncId) (cap:Array Value) (φ:CQ→CQ→CQ×Int) (s t:ByteArray) (w:World) (hG:Gw w) (hF:AU F cap φ w) :
  Calls Tryz.prog 76 #[.string s,.string t,.func (.func F) #[] cap] w fun e w'=>e=.returned (.tuple #[.string (aM φ s t).1,.int .i64 (aM φ s t).2])∧Below w.heap.size w w':=by
 have HF:=BZ hF
 have EN:=hF.en
 clear hF
 go_enter Tryz.func76,Tryz.ntmps76
 go_wp2_with fail
 refine (iM s w hG).mono ?_
 rintro e w1 ⟨v,ok,rfl,hcase,hb1⟩
 rcases hcase with ⟨z,hz,rfl,hv⟩ | ⟨hz,rfl,rfl⟩
 ·obtain⟨p,rfl,hp1,hp2,-,-⟩:=gK hz
  have HP1:=BZ hp1
  clear hz hp1
  obtain⟨_,_,_,_,_,_,rfl,hx0,hy0⟩:=id hv
  obtain⟨xm,xp,xl,xc,xq,xk,xd,hxe⟩:=hx0.form
  obtain⟨ym,yp,yl,yc,yq,yk,yd,hye⟩:=hy0.form
  obtain⟨rfl,rfl,rfl⟩:=cU hxe
  obtain⟨rfl,rfl,rfl⟩:=cU hye
  clear hxe hye hx0 hy0
  go_upto_region 2 with fail
  have q1:=bk.new w1 (.bool xm) (.slice xp xl xc) (.slice xq xk xd) (.bool ym) (.slice yp yl yc) (.slice yq yk yd) 91
  have m1:=ae w1 (.cells #[.bool xm,.slice xp xl xc,.slice xq xk xd,.bool ym,.slice yp yl yc,.slice yq yk yd] 91)
  generalize w1.alloc (.cells #[.bool xm,.slice xp xl xc,.slice xq xk xd,.bool ym,.slice yp yl yc,.slice yq yk yd] 91)=w2 at *
  have B1:=BZ q1
  have HV:=BZ (hv.below m1)
  have hb2:=hb1.trans (m1.mono hb1.size)
  clear q1 hv m1
  go_wp2_with fail
  refine (iM t w2 (hG.below hb2)).mono ?_
  rintro e w3 ⟨v2,ok2,rfl,hcase,hb3⟩
  have hB3:=hb2.trans (hb3.mono hb2.size)
  rcases hcase with ⟨z2,hz2,rfl,hv2⟩ | ⟨hz2,rfl,rfl⟩
  ·obtain⟨q,rfl,hr1,hr2,-,-⟩:=gK hz2
   have HP2:=BZ hr1
   clear hz2 hr1
   obtain⟨_,_,_,_,_,_,rfl,hx0,hy0⟩:=id hv2
   obtain⟨xm',xp',xl',xc',xq',xk',xd',hxe⟩:=hx0.form
   obtain⟨ym',yp',yl',yc',yq',yk',yd',hye⟩:=hy0.form
   obtain⟨rfl,rfl,rfl⟩:=cU hxe
   obtain⟨rfl,rfl,rfl⟩:=cU hye
   clear hxe hye hx0 hy0
   go_upto_region 5 with fail
   have q2:=bk.new w3 (.bool xm') (.slice xp' xl' xc') (.slice xq' xk' xd') (.bool ym') (.slice yp' yl' yc') (.slice yq' yk' yd') 91
   have m2:=ae w3 (.cells #[.bool xm',.slice xp' xl' xc',.slice xq' xk' xd',.bool ym',.slice yp' yl' yc',.slice yq' yk' yd'] 91)
   generalize w3.alloc (.cells #[.bool xm',.slice xp' xl' xc',.slice xq' xk' xd',.bool ym',.slice yp' yl' yc',.slice yq' yk' yd'] 91)=w4 at *
   have hb4:=hb3.trans (m2.mono hb3.size)
   have hB4:=hb2.trans (hb4.mono hb2.size)
   have q1:=B1.out.below hb4
   have HC:=BZ (HF.out.on _ _ p q w4 hB4 ⟨HV.out.below hb4,hp2.mono (by decide)⟩ ⟨hv2.below m2,hr2.mono (by decide)⟩)
   have a0:=q1.c0;have a1:=q1.c1;have a2:=q1.c2;have a3:=q1.c3;have a4:=q1.c4;have a5:=q1.c5
   have b0:=q2.c0;have b1:=q2.c1;have b2:=q2.c2;have b3:=q2.c3;have b4:=q2.c4;have b5:=q2.c5
   have HB4:=BZ hB4
   clear q1 q2 m2 hv2 hb3 hb4 hB4 hB3 hb2 HF
   go_wp2_with fail
   refine HC.out.mono ?_
   rintro e w5 ⟨v3,z3,rfl,hv3,hz3,hb5⟩
   obtain⟨err,herr⟩:∃ n,n=(φ p q).2:=⟨_,rfl⟩
   rw[←herr]
   have hB5:=HB4.out.trans (hb5.mono HB4.out.size)
   obtain⟨_,_,_,_,_,_,rfl,hx0,hy0⟩:=id hv3
   obtain⟨um,up,ul,uc,uq,uk,ud,hxe⟩:=hx0.form
   obtain⟨vm,vp,vl,vc,vq,vk,vd,hye⟩:=hy0.form
   obtain⟨rfl,rfl,rfl⟩:=cU hxe
   obtain⟨rfl,rfl,rfl⟩:=cU hye
   clear hxe hye hx0 hy0 a0 a1 a2 a3 a4 a5 b0 b1 b2 b3 b4 b5 HC HV B1 HB4
   by_cases he:err=0
   ·have hbc:aM φ s t=cA (φ p q).1:=by unfold aM;rw[HP1.out,HP2.out];simp only;rw[if_pos (by rw[←herr];exact he)]
    have hz4:=hz3 (by rw[←herr];exact he)
    have HE:=BZ hbc
    rw[hz4] at hv3
    clear hbc hz3 herr hz4
    subst he
    go_upto_region 8 with fail
    have q3:=bk.new w5 (.bool um) (.slice up ul uc) (.slice uq uk ud) (.bool vm) (.slice vp vl vc) (.slice vq vk vd) 91
    have m3:=ae w5 (.cells #[.bool um,.slice up ul uc,.slice uq uk ud,.bool vm,.slice vp vl vc,.slice vq vk vd] 91)
    generalize w5.alloc (.cells #[.bool um,.slice up ul uc,.slice uq uk ud,.bool vm,.slice vp vl vc,.slice vq vk vd] 91)=w6 at *
    have a0:=q3.c0;have a1:=q3.c1;have a2:=q3.c2;have a3:=q3.c3;have a4:=q3.c4;have a5:=q3.c5
    have HB6:=BZ (hB5.trans (m3.mono hB5.size))
    have HG:=BZ (hG.below HB6.out)
    have HV:=BZ (hv3.below m3)
    clear q3 m3 hv3 hB5 hb5
    go_wp2_with fail
    refine (wm _ _ _ HV.out HG.out).mono ?_
    rintro e w7 ⟨rfl,hb7⟩
    go_wp2
    refine bodyPost_ret (v:=.tuple #[.string (cA (φ p q).1).1,.int .i64 (cA (φ p q).1).2]) (by simp[results,Tryz.results76,go_sem]) rfl ⟨by rw[HE.out],HB6.out.trans (hb7.mono HB6.out.size)⟩
   ·have hbc:aM φ s t=(⟨#[]⟩,err):=by unfold aM;rw[HP1.out,HP2.out];simp only;rw[if_neg (by rw[←herr];exact he),herr]
    have HE:=BZ hbc
    have hne:(!(err == 0))=true:=by simpa using he
    clear hbc hz3 herr
    go_wp2
    refine bodyPost_ret (v:=.tuple #[.string ⟨#[]⟩,.int .i64 err]) (by simp[results,Tryz.results76,go_sem]) rfl ⟨by rw[HE.out],hB5.trans ((ae w5 _).mono hB5.size)⟩
  ·have e:aM φ s t=(⟨#[]⟩,10):=by unfold aM;rw[e_ hz2,HP1.out]
   have HE:=BZ e
   clear e hz2
   unfold fL
   go_wp2
   refine bodyPost_ret (v:=.tuple #[.string ⟨#[]⟩,.int .i64 10]) (by simp[results,Tryz.results76,go_sem]) rfl ⟨by rw[HE.out],hB3.trans ((ae w3 _).mono hB3.size)⟩
 ·have e:aM φ s t=(⟨#[]⟩,10):=by unfold aM;rw[e_ hz]
  have HE:=BZ e
  clear e hz
  unfold fL
  go_wp2
  refine bodyPost_ret (v:=.tuple #[.string ⟨#[]⟩,.int .i64 10]) (by simp[results,Tryz.results76,go_sem]) rfl ⟨by rw[HE.out],hb1.trans ((ae w1 _).mono hb1.size)⟩
end Go.Proofs.YtdlioncecgnloaaGreatDoor
