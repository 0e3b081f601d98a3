/- Lemmas of this claim. -/
import Derived.Test.YtdlioncecgnloaaGreatDoorYMach
import Derived.Test.YtdlioncecgnloaaGreatDoorYNat
import Derived.Test.YtdlioncecgnloaaGreatDoorYGet
import Derived.Test.YtdlioncecgnloaaGreatDoorYCoef
set_option linter.all false
set_option maxRecDepth 100000
set_option maxHeartbeats 8000000
namespace Go.Proofs.YtdlioncecgnloaaGreatDoor
open Go.RowKit
def i64s (l:List Nat):List Value:=l.map fun (d:Nat)=>Value.int .i64 (d:Int)
def x6 (w:World) (g cap:Nat) (l:List Nat):Prop:=w.ownsRow g 3 1 (.slice (some ⟨g,0,none⟩) l.length cap) l.length (i64s l)
theorem x6.drewN {w:World}{g cap:Nat}{l:List Nat} (h:x6 w g cap l) (n:Nat):x6 (w.drewN n) g cap l:=h
open Go.RowKit Dg
def RR:Nat:=10000
open Dg
theorem cS (d:Nat) (l:List Nat):val RR (d :: l)=d+RR*val RR l:=rfl
open Dg Dc
/-! ### reading -/
/-- how many digits a text begins with, m at most -/
def li:List UInt8→Nat→Nat
 | [],_=>0
 | _ :: _,0=>0
 | c :: s,m+1=>if a_ c then li s m+1 else 0
def jQ (s:List UInt8):Nat×List UInt8:=(aI (s.take (li s 2001)),s.drop (li s 2001))
def iO (s:List UInt8):Rt×List UInt8 :=
 if li s 2001=0 then (⟨false,1,1⟩,s)
 else if (jQ s).2.head?=some 47∧(jQ ((jQ s).2.drop 1)).1≠0 then (cN false (jQ s).1 (jQ ((jQ s).2.drop 1)).1,(jQ ((jQ s).2.drop 1)).2)
 else (⟨false,(jQ s).1,1⟩,(jQ s).2)
def xg (r:Rt):Rt:=⟨!r.minus&&decide (r.n≠0),r.n,r.d⟩
def fT (s:List UInt8):Rt×List UInt8 :=
 if s.head?=some 45 then (xg (iO (s.drop 1)).1,(iO (s.drop 1)).2)
 else if s.head?=some 43 then iO (s.drop 1) else iO s
def kN:Rt:=⟨false,0,1⟩
def g_ (s:List UInt8):Vl :=
 if (fT s).2=[105] then ⟨kN,(fT s).1⟩
 else if (fT s).2=[] then ⟨(fT s).1,kN⟩
 else ⟨(fT s).1,(fT (fT s).2).1⟩
def rOK (s:List UInt8):Bool:=decide (bS (g_ s)=s)&&!(cJ (g_ s).x||cJ (g_ s).y)
def vi (s:List UInt8):Bool:=rOK s&&decide ((g_ s).y.n=0)
def qu (r:Rt):Bool:=decide (r.n≤4096)&&decide (r.d≤4096)
structure e_ (r:Rt):Prop where
 pos:0<r.d
 gcd:Nat.gcd r.n r.d=1
 sign:r.minus=true→r.n≠0
theorem ki {mi:Bool}{n d:Nat} (h:0<d):e_ (cN mi n d):=by
 unfold cN
 split
 ·exact⟨by decide,by decide,fun h=>by cases h⟩
 ·rename_i hn
  have hg:0<Nat.gcd n d:=A3 _ h
  refine⟨Ch (Cd _ h) hg,?_,fun _=>?_⟩
  ·rw[Nat.gcd_div (Cc ..) (Nat.gcd_dvd_right ..),Nat.div_self hg]
  have:0<n / Nat.gcd n d:=Ch (Nat.le_of_dvd (by omega) (Cc ..)) hg
  show n / Nat.gcd n d≠0
  omega
theorem kh (n:Nat):e_ ⟨false,n,1⟩:=⟨Nat.one_pos,Nat.gcd_one_right n,fun h=>by cases h⟩
theorem tR {r:Rt} (h:e_ r):e_ (xg r):=⟨h.pos,h.gcd,fun hm=>by unfold xg at hm;simp at hm;exact hm.2⟩
theorem lB (s:List UInt8):e_ (iO s).1:=by
 unfold iO
 split
 ·exact kh 1
 ·split
  ·rename_i h;exact ki (by have:=h.2;omega)
  ·exact kh _
theorem gI (s:List UInt8):e_ (fT s).1:=by
 unfold fT
 split
 ·exact tR (lB _)
 ·split<;>exact lB _
theorem lC:e_ kN:=kh 0
theorem sf (s:List UInt8):e_ (g_ s).x∧e_ (g_ s).y:=by
 unfold g_
 split
 ·exact⟨lC,gI _⟩
 ·split
  ·exact⟨gI _,lC⟩
  ·exact⟨gI _,gI _⟩
theorem dS {s:List UInt8}{r:Rt} (h:bu s=some r):e_ r:=by
 unfold bu at h
 split at h
 ·cases h
 ·split at h
  ·split at h
   ·cases h
   ·split at h
    ·cases h
    ·rename_i h0;injection h with h;subst h;exact ki (by omega)
  ·injection h with h;subst h;exact ki (by decide)
theorem j6 {r:Rt} (h:e_ r):cN r.minus r.n r.d=r:=by
 obtain⟨m,n,d⟩:=r
 have h1:=h.pos
 have h2:=h.gcd
 have h3:=h.sign
 simp only at h1 h2 h3 ⊢
 unfold cN
 rw[h2,Cg,Cg]
 split
 ·rename_i h0
  subst h0
  rw[Nat.gcd_zero_left] at h2
  cases m
  ·rw[h2]
  ·exact absurd rfl (h3 rfl)
 ·rfl
/-! ### texts of digits -/
theorem nM (n:Nat):∃ c r,dec n=c :: r∧a_ c=true:=by
 cases h:dec n with
 | nil=>exact absurd h (eB n)
 | cons c r =>
  have:=cV n
  rw[h,BD,zL] at this
  exact⟨c,r,rfl,this.1⟩
theorem gj {c:UInt8} (h:a_ c=true):c≠43∧c≠45∧c≠47∧c≠105:=by
 unfold a_ at h
 simp only[zL,decide_eq_true_eq] at h
 refine⟨?_,?_,?_,?_⟩<;>(intro e;subst e;revert h;decide)
theorem nH:∀ (l t:List UInt8) (m:Nat),l.all a_=true→l.length≤m→(∀ c,t.head?=some c→a_ c=false)→li (l++t) m=l.length
 | [],[],m,_,_,_=>by simp[li]
 | [],c :: t,0,_,_,_=>by simp[li]
 | [],c :: t,m+1,_,_,h=>by
  have:=h c rfl
  simp[li,this]
 | c :: l,t,0,_,h,_=>by simp at h
 | c :: l,t,m+1,ha,hl,h=>by
  rw[BD,zL] at ha
  rw[zT,li,if_pos ha.1,nH l t m ha.2 (by simpa using hl) h];rfl
theorem kM {n:Nat}{t:List UInt8} (hl:(dec n).length≤2001) (h:∀ c,t.head?=some c→a_ c=false):jQ (dec n++t)=(n,t)∧li (dec n++t) 2001=(dec n).length:=by
 have e:=nH (dec n) t 2001 (cV n) hl h
 refine⟨?_,e⟩
 unfold jQ
 rw[e,BM,List.drop_left',ic]<;>rfl
def dR (r:Rt):List UInt8:=dec r.n++(if 1<r.d then 47 :: dec r.d else [])
theorem eo (r:Rt):aF r=(if r.minus then [45] else [])++dR r:=by unfold aF dR;rw[Af]
theorem kc {r:Rt} (h:cJ r=false):(dec r.n).length≤2000∧(dec r.d).length≤2000:=by
 unfold cJ at h
 simp only[AK,decide_eq_false_iff_not] at h
 omega
theorem it (r:Rt):∃ c t,dR r=c :: t∧a_ c=true:=by
 obtain⟨c,t,h1,h2⟩:=nM r.n
 exact⟨c,t++_,by unfold dR;rw[h1];rfl,h2⟩
theorem tb {r:Rt} (h:e_ r) (hb:cJ r=false):iO (dR r)=(⟨false,r.n,r.d⟩,[]):=by
 obtain⟨h1,h2⟩:=kc hb
 have hp:=eA r.n
 have hpos:=h.pos
 unfold dR
 split
 ·rename_i hd
  obtain⟨e1,e2⟩:=kM (n:=r.n) (t:=47 :: dec r.d) (by omega) (fun c hc=>by simp at hc;subst hc;decide)
  obtain⟨e3,_⟩:=kM (n:=r.d) (t:=[]) (by omega) (fun c hc=>by cases hc)
  rw[Ar] at e3
  unfold iO
  rw[e2,if_neg (by omega),e1]
  simp only[Ce,List.drop_one,List.tail_cons]
  rw[e3,if_pos ⟨by simp,by show r.d≠0;omega⟩]
  have:=j6 (r:=⟨false,r.n,r.d⟩) ⟨h.pos,h.gcd,fun h=>by cases h⟩
  rw[this]
 ·rename_i hd
  obtain⟨e1,e2⟩:=kM (n:=r.n) (t:=[]) (by omega) (fun c hc=>by cases hc)
  rw[show r.d=1 by omega]
  unfold iO
  rw[e2,if_neg (by omega),e1]
  rfl
theorem ql {r:Rt} (h:e_ r) (hb:cJ r=false):fT (aF r)=(r,[]):=by
 rw[eo]
 have hp:=tb h hb
 obtain⟨c,t,e1,e2⟩:=it r
 obtain⟨m,n,d⟩:=r
 cases m
 ·simp only[zI,if_false,zN]
  obtain⟨n1,n2,_⟩:=gj e2
  unfold fT
  rw[e1] at hp ⊢
  simp only[Ce,Option.some.injEq]
  rw[if_neg n2,if_neg n1];exact hp
 ·simp only[if_true]
  have hs:=h.sign rfl
  simp only at hs
  unfold fT
  simp only[zT,zN,Ce,if_true,List.drop_one,List.tail_cons]
  rw[hp]
  unfold xg
  simp[hs]
theorem qk {r:Rt} (h:e_ r) (hb:cJ r=false):g_ (aF r)=⟨r,kN⟩:=by
 unfold g_
 rw[ql h hb]
 simp
theorem bE {z:Vl} (h:z.y.n=0):bS z=aF z.x:=by unfold bS;rw[if_pos h]
/-! ### the program's reading of such a text -/
theorem lk {l:List UInt8}{c d:UInt8} (h:c≠d):Lib.hasSuffix (l++[c]) [d]=false:=by
 unfold Lib.hasSuffix
 rw[Ae]
 intro he
 rw[BX] at he
 obtain⟨t,ht⟩:=he
 have:=List.append_inj_right' ht rfl
 simp at this
 exact h this.symm
theorem nN (n:Nat):∃ l c,dec n=l++[c]∧a_ c=true:=by
 have hne:=eB n
 have:=BU hne
 exact⟨_,_,this.symm,zS.1 (cV n) _ (List.getLast_mem hne)⟩
theorem tr (r:Rt):∃ l c,aF r=l++[c]∧a_ c=true:=by
 rw[eo]
 unfold dR
 by_cases hd:1<r.d
 all_goals first | rw[if_pos hd] | rw[if_neg hd]
 ·obtain⟨l,c,h1,h2⟩:=nN r.d
  exact⟨(if r.minus then [45] else [])++(dec r.n++47 :: l),c,by rw[h1];simp only[Af,zT],h2⟩
 ·obtain⟨l,c,h1,h2⟩:=nN r.n
  exact⟨(if r.minus then [45] else [])++l,c,by rw[h1];simp only[Af,Ar],h2⟩
theorem qi (r:Rt):dX (aF r)=(aF r,[48]):=by
 obtain⟨l,c,h1,h2⟩:=tr r
 have:Lib.hasSuffix (aF r) [105]=false:=by rw[h1];exact lk (gj h2).2.2.2
 unfold dX
 rw[this];rfl
theorem fM (c d:UInt8) (l:List UInt8):Lib.hasPrefix (c :: l) [d]=decide (c=d):=by
 unfold Lib.hasPrefix
 rw[Bool.eq_iff_iff,BW]
 simp[List.cons_prefix_cons,eq_comm]
theorem mo (r:Rt):Lib.trimPrefix (aF r) [45]=dR r∧Lib.hasPrefix (aF r) [45]=r.minus:=by
 rw[eo]
 obtain⟨c,t,e1,e2⟩:=it r
 unfold Lib.trimPrefix
 cases r.minus
 ·simp only[zI,if_false,zN]
  rw[e1,fM,decide_eq_false (gj e2).2.1]
  exact⟨rfl,rfl⟩
 ·simp only[if_true,zT,zN]
  rw[fM,decide_eq_true rfl]
  exact⟨rfl,rfl⟩
theorem mT {s:List UInt8}{d:UInt8}{i:Nat}:Lib.occAt s [d] i=true↔s[i]?=some d:=by
 unfold Lib.occAt
 rw[BW]
 constructor
 ·rintro⟨t,ht⟩
  have:(s.drop i)[0]?=some d:=by rw[←ht];rfl
  rw[A9] at this
  simpa using this
 ·intro h
  obtain⟨hi,e⟩:=Am.1 h
  exact⟨s.drop (i+1),by rw[Al hi,e];rfl⟩
theorem ii {s:List UInt8}{d:UInt8} (h:d∉s):Lib.index s [d]=-1:=by
 refine Lib.index_none (fun j _=>?_)
 rw[Ae]
 intro he
 exact h (AW (mT.1 he))
theorem lL {l t:List UInt8}{d:UInt8} (h:d∉l):Lib.index (l++d :: t) [d]=l.length:=by
 refine Lib.index_first (by simp) (mT.2 (by simp)) (fun j hj=>?_)
 rw[Ae]
 intro he
 have:=mT.1 he
 rw[AV hj] at this
 exact h (AW this)
theorem gr {l:List UInt8} (h:l.all a_=true):(47:UInt8)∉l:=fun hm=>(gj (zS.1 h _ hm)).2.2.1 rfl
theorem gp (n:Nat):bt (dec n)=some n:=by
 unfold bt
 rw[if_pos ⟨eB n,cV n⟩,ic]
theorem gy {r:Rt} (h:e_ r):bu (aF r)=some r:=by
 obtain⟨e1,e2⟩:=mo r
 have hpos:=h.pos
 unfold bu
 rw[e1,e2]
 unfold dR Lib.cut
 by_cases hd:1<r.d
 all_goals first | rw[if_pos hd] | rw[if_neg hd]
 ·rw[lL (gr (cV r.n)),if_pos (by omega)]
  simp only[BZ]
  rw[BM rfl,gp]
  simp only[if_true]
  have:(dec r.n++47 :: dec r.d).drop ((dec r.n).length+([47]:List UInt8).length)=dec r.d:=by simp[List.drop_append]
  rw[this,gp]
  simp only
  rw[if_neg (by omega),j6 h]
 ·rw[Ar,ii (gr (cV r.n)),if_neg (by omega)]
  simp only
  rw[gp]
  simp only[zI,if_false]
  have hd1:r.d=1:=by omega
  have:=j6 h
  rw[hd1] at this
  rw[this]
theorem kW {r:Rt} (hb:cJ r=false):(aF r).length≤4002:=by
 obtain⟨h1,h2⟩:=kc hb
 rw[eo]
 unfold dR
 rw[zw,zw]
 split<;>split<;>simp<;>omega
theorem nW {r:Rt} (h:e_ r) (hb:cJ r=false):ec (aF r)=some ⟨r,kN⟩:=by
 have hl:=kW hb
 unfold ec
 rw[if_neg (by omega),qi,gy h]
 simp only
 rw[jB]
 simp only
 rw[if_pos ⟨bE rfl,hb,gR⟩];rfl
theorem vu (s:List UInt8):(eI s=true↔∃ r,e_ r∧cJ r=false∧s=aF r)∧(vi s=true↔∃ r,e_ r∧cJ r=false∧s=aF r):=by
 refine⟨⟨fun h=>?_,?_⟩,⟨fun h=>?_,?_⟩⟩
 ·unfold eI at h
  cases hg:ec s with
  | none=>rw[hg] at h;cases h
  | some z =>
   rw[hg] at h
   have hy:=of_decide_eq_true h
   unfold ec at hg
   split at hg
   ·cases hg
   ·split at hg
    ·rename_i p q hp hq
     split at hg
     ·rename_i hc
      injection hg with hg
      subst hg
      refine⟨p,dS hp,hc.2.1,?_⟩
      rw[←hc.1]
      exact bE hy
     ·cases hg
    ·cases hg
 ·rintro⟨r,h1,h2,rfl⟩
  unfold eI
  rw[nW h1 h2];rfl
 ·unfold vi rOK at h
  simp only[zL,decide_eq_true_eq,Bool.not_eq_true',AK] at h
  exact⟨(g_ s).x,(sf s).1,h.1.2.1,by rw[←bE h.2];exact h.1.1.symm⟩
 ·rintro⟨r,h1,h2,rfl⟩
  unfold vi rOK
  rw[qk h1 h2,bE rfl]
  simp[h2,gR,show cJ kN=false from gR,show kN.n=0 from rfl]
/-! ### short parts -/
theorem nL (c:UInt8) (l:List UInt8):aI (c :: l)=(c.toNat-48)*10 ^ l.length+aI l:=by
 have:=dM [c] l
 rw[Bi] at this
 rw[this]
 simp[aI]
theorem kF:∀ (l:List UInt8) (acc:Nat),l.all a_=true→acc<18446744073709551616 →
  Lib.parseUint10 acc l=if acc*10 ^ l.length+aI l<18446744073709551616 then .ok (acc*10 ^ l.length+aI l) else .range
 | [],acc,_,h=>by simp[Lib.parseUint10,aI,h]
 | c :: l,acc,ha,h=>by
  rw[BD,zL] at ha
  have hc:48≤c.toNat∧c.toNat≤57:=by have:=ha.1;unfold a_ at this;simpa using this
  have e:acc*10 ^ (c :: l).length+aI (c :: l)=(acc*10+(c.toNat-48))*10 ^ l.length+aI l:=by
   rw[nL,zU,zH];grind
  have hpow:0<10 ^ l.length:=AP (by decide)
  have hge:acc*10+(c.toNat-48)≤(acc*10+(c.toNat-48))*10 ^ l.length:=Ah _ hpow
  rw[Lib.parseUint10,if_pos hc,e]
  split
  ·rw[if_neg (by omega)]
  ·split
   ·rw[if_neg (by omega)]
   ·exact kF l _ ha.2 (by omega)
theorem oH (n:Nat):ft (dec n)=decide (n≤4096):=by
 obtain⟨c,t,e1,e2⟩:=nM n
 have hc:48≤c.toNat∧c.toNat≤57:=by have:=e2;unfold a_ at this;simpa using this
 have hp:=kF (dec n) 0 (cV n) (by decide)
 rw[ic,AC,Ad] at hp
 unfold ft Lib.atoiAll
 rw[e1]
 simp only
 rw[if_neg (by omega),←e1]
 unfold Lib.parseMag
 rw[if_neg (eB n),hp]
 by_cases h1:n<18446744073709551616
 ·rw[if_pos h1]
  simp only
  have hn:¬ c.toNat=45:=by omega
  by_cases h2:9223372036854775808≤n
  ·simp[hn,h2];omega
  ·simp[hn,h2];omega
 ·rw[if_neg h1]
  simp
  omega
theorem th (r:Rt) (h:0<r.d):(dI ⟨(dR r).toArray⟩).all (fun p=>ft p.data.toList)=qu r:=by
 have e:(dI ⟨(dR r).toArray⟩).all (fun p=>ft p.data.toList)=(Lib.splitK [47] 0 (Lib.count (dR r) [47]) (dR r)).all ft:=by
  have:=Lib.splitB_data ⟨#[47]⟩ 0 (Lib.countB ⟨(dR r).toArray⟩ ⟨#[47]⟩) ⟨(dR r).toArray⟩
  have e2:Lib.countB ⟨(dR r).toArray⟩ ⟨#[47]⟩=Lib.count (dR r) [47]:=by unfold Lib.countB;simp
  rw[e2] at this
  unfold dI
  rw[e2]
  simp only[BS] at this
  rw[←this,List.all_map];rfl
 rw[e]
 unfold dR qu
 split
 ·have h1:=lL (t:=dec r.d) (gr (cV r.n))
  have h2:=ii (gr (cV r.d))
  have e3:(dec r.n++47 :: dec r.d).drop ((dec r.n).length+([47]:List UInt8).length)=dec r.d:=by simp[List.drop_append]
  rw[Lib.count_hit (by simp) h1,e3,Lib.count_miss h2]
  show (Lib.splitK [47] 0 (0+1) _).all ft=_
  rw[Lib.splitK,if_neg (by rw[h1];simp),h1]
  simp only[BZ,z6]
  rw[e3,BM rfl]
  simp[Lib.splitK,oH]
 ·rw[Ar,Lib.count_miss (ii (gr (cV r.n)))]
  simp only[Lib.splitK,BD,List.all_nil,Bool.and_true,oH]
  rw[show r.d=1 by omega];simp
end Go.Proofs.YtdlioncecgnloaaGreatDoor
