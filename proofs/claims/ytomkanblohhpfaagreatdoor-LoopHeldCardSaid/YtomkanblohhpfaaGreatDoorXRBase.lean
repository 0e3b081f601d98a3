/- Lemmas of this claim. -/
import Derived.Test.YtomkanblohhpfaaGreatDoorXMach
import Derived.Test.YtomkanblohhpfaaGreatDoorXNat
import Derived.Test.YtomkanblohhpfaaGreatDoorXGet
import Derived.Test.YtomkanblohhpfaaGreatDoorXNQ
import Derived.Test.YtomkanblohhpfaaGreatDoorXCoef
set_option linter.all false
set_option maxRecDepth 100000
set_option maxHeartbeats 8000000
namespace Go.Proofs.YtomkanblohhpfaaGreatDoor
open Go.RowKit
def i64s (l:List Nat):List Value:=l.map fun (d:Nat)=>Value.int .i64 (d:Int)
abbrev OwnI (w:World) (base:Nat) (v:Value) (l:List Nat):Prop:=w.ownsRow base 3 1 v l.length (i64s l)
def o8 (w:World) (g cap:Nat) (l:List Nat):Prop:=w.ownsRow g 3 1 (.slice (some ⟨g,0,none⟩) l.length cap) l.length (i64s l)
theorem o8.own {w:World}{g cap base:Nat}{l:List Nat} (h:o8 w g cap l) (hb:base≤g):OwnI w base (.slice (some ⟨g,0,none⟩) l.length cap) l:=by
 obtain⟨h1,h2⟩:=h
 refine⟨h1,?_⟩
 rcases h2 with h2 | ⟨g',cap',cur,e,_,r⟩
 ·exact Or.inl h2
 ·have:g'=g:=by simp at e;exact e.1.symm
  subst this
  exact Or.inr ⟨g',cap',cur,e,hb,r⟩
theorem o8.lt {w:World}{g cap:Nat}{l:List Nat} (h:o8 w g cap l):g<w.heap.size:=(World.ownsRow.lt h g rfl).2
theorem o8.drewN {w:World}{g cap:Nat}{l:List Nat} (h:o8 w g cap l) (n:Nat):o8 (w.drewN n) g cap l:=h
open Go.RowKit Dg
def RR:Nat:=10000
theorem tE:2≤RR:=by decide
open Dg
theorem cT (d:Nat) (l:List Nat):val RR (d :: l)=d+RR*val RR l:=rfl
def wh (n:Nat):Prop:=(ai RR n).length<100000
theorem wh.mono {m n:Nat} (h:wh n) (hm:m≤n):wh m:=by
 unfold wh at *
 have h1:=bK tE n
 have:=bg tE (n:=m) (k:=(ai RR n).length) (by omega)
 omega
open Dg Dc
/-! ### reading -/
/-- how many digits a text begins with, m at most -/
def ly:List UInt8→Nat→Nat
 | [],_=>0
 | _ :: _,0=>0
 | c :: s,m+1=>if bh c then ly s m+1 else 0
def j4 (s:List UInt8):Nat×List UInt8:=(aK (s.take (ly s 2001)),s.drop (ly s 2001))
def ja (s:List UInt8):Rt×List UInt8 :=
 if ly s 2001=0 then (⟨false,1,1⟩,s)
 else if (j4 s).2.head?=some 47∧(j4 ((j4 s).2.drop 1)).1≠0 then (cP false (j4 s).1 (j4 ((j4 s).2.drop 1)).1,(j4 ((j4 s).2.drop 1)).2)
 else (⟨false,(j4 s).1,1⟩,(j4 s).2)
def wY (r:Rt):Rt:=⟨!r.minus&&decide (r.n≠0),r.n,r.d⟩
def f_ (s:List UInt8):Rt×List UInt8 :=
 if s.head?=some 45 then (wY (ja (s.drop 1)).1,(ja (s.drop 1)).2)
 else if s.head?=some 43 then ja (s.drop 1) else ja s
def k_:Rt:=⟨false,0,1⟩
def iz (s:List UInt8):Vl :=
 if (f_ s).2=[105] then ⟨k_,(f_ s).1⟩
 else if (f_ s).2=[] then ⟨(f_ s).1,k_⟩
 else ⟨(f_ s).1,(f_ (f_ s).2).1⟩
def rOK (s:List UInt8):Bool:=decide (b_ (iz s)=s)&&!(cM (iz s).x||cM (iz s).y)
def vf (s:List UInt8):Bool:=rOK s&&decide ((iz s).y.n=0)
def nh (r:Rt):Bool:=decide (r.n≤4096)&&decide (r.d≤4096)
structure fi (r:Rt):Prop where
 pos:0<r.d
 gcd:Nat.gcd r.n r.d=1
 sign:r.minus=true→r.n≠0
theorem ky {mi:Bool}{n d:Nat} (h:0<d):fi (cP mi n d):=by
 unfold cP
 split
 ·exact⟨by decide,by decide,fun h=>by cases h⟩
 ·rename_i hn
  have hg:0<Nat.gcd n d:=AK _ h
  refine⟨BM (BG _ h) hg,?_,fun _=>?_⟩
  ·rw[Nat.gcd_div (BF ..) (Nat.gcd_dvd_right ..),Nat.div_self hg]
  have:0<n / Nat.gcd n d:=BM (Nat.le_of_dvd (by omega) (BF ..)) hg
  show n / Nat.gcd n d≠0
  omega
theorem kx (n:Nat):fi ⟨false,n,1⟩:=⟨Nat.one_pos,Nat.gcd_one_right n,fun h=>by cases h⟩
theorem tO {r:Rt} (h:fi r):fi (wY r):=⟨h.pos,h.gcd,fun hm=>by unfold wY at hm;simp at hm;exact hm.2⟩
theorem lH (s:List UInt8):fi (ja s).1:=by
 unfold ja
 split
 ·exact kx 1
 ·split
  ·rename_i h;exact ky (by have:=h.2;omega)
  ·exact kx _
theorem gZ (s:List UInt8):fi (f_ s).1:=by
 unfold f_
 split
 ·exact tO (lH _)
 ·split<;>exact lH _
theorem lI:fi k_:=kx 0
theorem rY (s:List UInt8):fi (iz s).x∧fi (iz s).y:=by
 unfold iz
 split
 ·exact⟨lI,gZ _⟩
 ·split
  ·exact⟨gZ _,lI⟩
  ·exact⟨gZ _,gZ _⟩
theorem dQ {s:List UInt8}{r:Rt} (h:bH s=some r):fi r:=by
 unfold bH at h
 split at h
 ·cases h
 ·split at h
  ·split at h
   ·cases h
   ·split at h
    ·cases h
    ·rename_i h0;injection h with h;subst h;exact ky (by omega)
  ·injection h with h;subst h;exact ky (by decide)
theorem kl {r:Rt} (h:fi r):cP r.minus r.n r.d=r:=by
 obtain⟨m,n,d⟩:=r
 have h1:=h.pos
 have h2:=h.gcd
 have h3:=h.sign
 simp only at h1 h2 h3 ⊢
 unfold cP
 rw[h2,BL,BL]
 split
 ·rename_i h0
  subst h0
  rw[Nat.gcd_zero_left] at h2
  cases m
  ·rw[h2]
  ·exact absurd rfl (h3 rfl)
 ·rfl
/-! ### texts of digits -/
theorem nK (n:Nat):∃ c r,dec n=c :: r∧bh c=true:=by
 cases h:dec n with
 | nil=>exact absurd h (eJ n)
 | cons c r =>
  have:=cV n
  rw[h,Bc,zt] at this
  exact⟨c,r,rfl,this.1⟩
theorem gE {c:UInt8} (h:bh c=true):c≠43∧c≠45∧c≠47∧c≠105:=by
 unfold bh at h
 simp only[zt,decide_eq_true_eq] at h
 refine⟨?_,?_,?_,?_⟩<;>(intro e;subst e;revert h;decide)
theorem nF:∀ (l t:List UInt8) (m:Nat),l.all bh=true→l.length≤m→(∀ c,t.head?=some c→bh c=false)→ly (l++t) m=l.length
 | [],[],m,_,_,_=>by simp[ly]
 | [],c :: t,0,_,_,_=>by simp[ly]
 | [],c :: t,m+1,_,_,h=>by
  have:=h c rfl
  simp[ly,this]
 | c :: l,t,0,_,h,_=>by simp at h
 | c :: l,t,m+1,ha,hl,h=>by
  rw[Bc,zt] at ha
  rw[zO,ly,if_pos ha.1,nF l t m ha.2 (by simpa using hl) h];rfl
theorem k9 {n:Nat}{t:List UInt8} (hl:(dec n).length≤2001) (h:∀ c,t.head?=some c→bh c=false):j4 (dec n++t)=(n,t)∧ly (dec n++t) 2001=(dec n).length:=by
 have e:=nF (dec n) t 2001 (cV n) hl h
 refine⟨?_,e⟩
 unfold j4
 rw[e,Bh,List.drop_left',iF]<;>rfl
def dP (r:Rt):List UInt8:=dec r.n++(if 1<r.d then 47 :: dec r.d else [])
theorem eE (r:Rt):aI r=(if r.minus then [45] else [])++dP r:=by unfold aI dP;rw[zS]
theorem kv {r:Rt} (h:cM r=false):(dec r.n).length≤2000∧(dec r.d).length≤2000:=by
 unfold cM at h
 simp only[Aj,decide_eq_false_iff_not] at h
 omega
theorem iM (r:Rt):∃ c t,dP r=c :: t∧bh c=true:=by
 obtain⟨c,t,h1,h2⟩:=nK r.n
 exact⟨c,t++_,by unfold dP;rw[h1];rfl,h2⟩
theorem sS {r:Rt} (h:fi r) (hb:cM r=false):ja (dP r)=(⟨false,r.n,r.d⟩,[]):=by
 obtain⟨h1,h2⟩:=kv hb
 have hp:=eH r.n
 have hpos:=h.pos
 unfold dP
 split
 ·rename_i hd
  obtain⟨e1,e2⟩:=k9 (n:=r.n) (t:=47 :: dec r.d) (by omega) (fun c hc=>by simp at hc;subst hc;decide)
  obtain⟨e3,_⟩:=k9 (n:=r.d) (t:=[]) (by omega) (fun c hc=>by cases hc)
  rw[Aa] at e3
  unfold ja
  rw[e2,if_neg (by omega),e1]
  simp only[BJ,List.drop_one,List.tail_cons]
  rw[e3,if_pos ⟨by simp,by show r.d≠0;omega⟩]
  have:=kl (r:=⟨false,r.n,r.d⟩) ⟨h.pos,h.gcd,fun h=>by cases h⟩
  rw[this]
 ·rename_i hd
  obtain⟨e1,e2⟩:=k9 (n:=r.n) (t:=[]) (by omega) (fun c hc=>by cases hc)
  rw[show r.d=1 by omega]
  unfold ja
  rw[e2,if_neg (by omega),e1]
  rfl
theorem pX {r:Rt} (h:fi r) (hb:cM r=false):f_ (aI r)=(r,[]):=by
 rw[eE]
 have hp:=sS h hb
 obtain⟨c,t,e1,e2⟩:=iM r
 obtain⟨m,n,d⟩:=r
 cases m
 ·simp only[zu,if_false,zH]
  obtain⟨n1,n2,_⟩:=gE e2
  unfold f_
  rw[e1] at hp ⊢
  simp only[BJ,Option.some.injEq]
  rw[if_neg n2,if_neg n1];exact hp
 ·simp only[if_true]
  have hs:=h.sign rfl
  simp only at hs
  unfold f_
  simp only[zO,zH,BJ,if_true,List.drop_one,List.tail_cons]
  rw[hp]
  unfold wY
  simp[hs]
theorem pW {r:Rt} (h:fi r) (hb:cM r=false):iz (aI r)=⟨r,k_⟩:=by
 unfold iz
 rw[pX h hb]
 simp
theorem cr {z:Vl} (h:z.y.n=0):b_ z=aI z.x:=by unfold b_;rw[if_pos h]
/-! ### the program's reading of such a text -/
theorem lA {l:List UInt8}{c d:UInt8} (h:c≠d):Lib.hasSuffix (l++[c]) [d]=false:=by
 unfold Lib.hasSuffix
 rw[zY]
 intro he
 rw[Bu] at he
 obtain⟨t,ht⟩:=he
 have:=List.append_inj_right' ht rfl
 simp at this
 exact h this.symm
theorem nL (n:Nat):∃ l c,dec n=l++[c]∧bh c=true:=by
 have hne:=eJ n
 have:=Bo hne
 exact⟨_,_,this.symm,zF.1 (cV n) _ (List.getLast_mem hne)⟩
theorem tf (r:Rt):∃ l c,aI r=l++[c]∧bh c=true:=by
 rw[eE]
 unfold dP
 by_cases hd:1<r.d
 all_goals first | rw[if_pos hd] | rw[if_neg hd]
 ·obtain⟨l,c,h1,h2⟩:=nL r.d
  exact⟨(if r.minus then [45] else [])++(dec r.n++47 :: l),c,by rw[h1];simp only[zS,zO],h2⟩
 ·obtain⟨l,c,h1,h2⟩:=nL r.n
  exact⟨(if r.minus then [45] else [])++l,c,by rw[h1];simp only[zS,Aa],h2⟩
theorem pT (r:Rt):dW (aI r)=(aI r,[48]):=by
 obtain⟨l,c,h1,h2⟩:=tf r
 have:Lib.hasSuffix (aI r) [105]=false:=by rw[h1];exact lA (gE h2).2.2.2
 unfold dW
 rw[this];rfl
theorem fW (c d:UInt8) (l:List UInt8):Lib.hasPrefix (c :: l) [d]=decide (c=d):=by
 unfold Lib.hasPrefix
 rw[Bool.eq_iff_iff,Bt]
 simp[List.cons_prefix_cons,eq_comm]
theorem jF (r:Rt):Lib.trimPrefix (aI r) [45]=dP r∧Lib.hasPrefix (aI r) [45]=r.minus:=by
 rw[eE]
 obtain⟨c,t,e1,e2⟩:=iM r
 unfold Lib.trimPrefix
 cases r.minus
 ·simp only[zu,if_false,zH]
  rw[e1,fW,decide_eq_false (gE e2).2.1]
  exact⟨rfl,rfl⟩
 ·simp only[if_true,zO,zH]
  rw[fW,decide_eq_true rfl]
  exact⟨rfl,rfl⟩
theorem mU {s:List UInt8}{d:UInt8}{i:Nat}:Lib.occAt s [d] i=true↔s[i]?=some d:=by
 unfold Lib.occAt
 rw[Bt]
 constructor
 ·rintro⟨t,ht⟩
  have:(s.drop i)[0]?=some d:=by rw[←ht];rfl
  rw[AO] at this
  simpa using this
 ·intro h
  obtain⟨hi,e⟩:=z8.1 h
  exact⟨s.drop (i+1),by rw[Ad hi,e];rfl⟩
theorem iH {s:List UInt8}{d:UInt8} (h:d∉s):Lib.index s [d]=-1:=by
 refine Lib.index_none (fun j _=>?_)
 rw[zY]
 intro he
 exact h (AE (mU.1 he))
theorem lQ {l t:List UInt8}{d:UInt8} (h:d∉l):Lib.index (l++d :: t) [d]=l.length:=by
 refine Lib.index_first (by simp) (mU.2 (by simp)) (fun j hj=>?_)
 rw[zY]
 intro he
 have:=mU.1 he
 rw[List.getElem?_append_left hj] at this
 exact h (AE this)
theorem gI {l:List UInt8} (h:l.all bh=true):(47:UInt8)∉l:=fun hm=>(gE (zF.1 h _ hm)).2.2.1 rfl
theorem gG (n:Nat):bC (dec n)=some n:=by
 unfold bC
 rw[if_pos ⟨eJ n,cV n⟩,iF]
theorem gL {r:Rt} (h:fi r):bH (aI r)=some r:=by
 obtain⟨e1,e2⟩:=jF r
 have hpos:=h.pos
 unfold bH
 rw[e1,e2]
 unfold dP Lib.cut
 by_cases hd:1<r.d
 all_goals first | rw[if_pos hd] | rw[if_neg hd]
 ·rw[lQ (gI (cV r.n)),if_pos (by omega)]
  simp only[Bw]
  rw[Bh rfl,gG]
  simp only[if_true]
  have:(dec r.n++47 :: dec r.d).drop ((dec r.n).length+([47]:List UInt8).length)=dec r.d:=by simp[List.drop_append]
  rw[this,gG]
  simp only
  rw[if_neg (by omega),kl h]
 ·rw[Aa,iH (gI (cV r.n)),if_neg (by omega)]
  simp only
  rw[gG]
  simp only[zu,if_false]
  have hd1:r.d=1:=by omega
  have:=kl h
  rw[hd1] at this
  rw[this]
theorem ll {r:Rt} (hb:cM r=false):(aI r).length≤4002:=by
 obtain⟨h1,h2⟩:=kv hb
 rw[eE]
 unfold dP
 rw[zl,zl]
 split<;>split<;>simp<;>omega
theorem nR {r:Rt} (h:fi r) (hb:cM r=false):eO (aI r)=some ⟨r,k_⟩:=by
 have hl:=ll hb
 unfold eO
 rw[if_neg (by omega),pT,gL h]
 simp only
 rw[jQ]
 simp only
 rw[if_pos ⟨cr rfl,hb,ij⟩];rfl
theorem vi (s:List UInt8):(fF s=true↔∃ r,fi r∧cM r=false∧s=aI r)∧(vf s=true↔∃ r,fi r∧cM r=false∧s=aI r):=by
 refine⟨⟨fun h=>?_,?_⟩,⟨fun h=>?_,?_⟩⟩
 ·unfold fF at h
  cases hg:eO s with
  | none=>rw[hg] at h;cases h
  | some z =>
   rw[hg] at h
   have hy:=of_decide_eq_true h
   unfold eO at hg
   split at hg
   ·cases hg
   ·split at hg
    ·rename_i p q hp hq
     split at hg
     ·rename_i hc
      injection hg with hg
      subst hg
      refine⟨p,dQ hp,hc.2.1,?_⟩
      rw[←hc.1]
      exact cr hy
     ·cases hg
    ·cases hg
 ·rintro⟨r,h1,h2,rfl⟩
  unfold fF
  rw[nR h1 h2];rfl
 ·unfold vf rOK at h
  simp only[zt,decide_eq_true_eq,Bool.not_eq_true',Aj] at h
  exact⟨(iz s).x,(rY s).1,h.1.2.1,by rw[←cr h.2];exact h.1.1.symm⟩
 ·rintro⟨r,h1,h2,rfl⟩
  unfold vf rOK
  rw[pW h1 h2,cr rfl]
  simp[h2,ij,show cM k_=false from ij,show k_.n=0 from rfl]
/-! ### short parts -/
theorem nJ (c:UInt8) (l:List UInt8):aK (c :: l)=(c.toNat-48)*10 ^ l.length+aK l:=by
 have:=dL [c] l
 rw[AV] at this
 rw[this]
 simp[aK]
theorem kV:∀ (l:List UInt8) (acc:Nat),l.all bh=true→acc<18446744073709551616 →
  Lib.parseUint10 acc l=if acc*10 ^ l.length+aK l<18446744073709551616 then .ok (acc*10 ^ l.length+aK l) else .range
 | [],acc,_,h=>by simp[Lib.parseUint10,aK,h]
 | c :: l,acc,ha,h=>by
  rw[Bc,zt] at ha
  have hc:48≤c.toNat∧c.toNat≤57:=by have:=ha.1;unfold bh at this;simpa using this
  have e:acc*10 ^ (c :: l).length+aK (c :: l)=(acc*10+(c.toNat-48))*10 ^ l.length+aK l:=by
   rw[nJ,zJ,zr];grind
  have hpow:0<10 ^ l.length:=AH (by decide)
  have hge:acc*10+(c.toNat-48)≤(acc*10+(c.toNat-48))*10 ^ l.length:=Nat.le_mul_of_pos_right _ hpow
  rw[Lib.parseUint10,if_pos hc,e]
  split
  ·rw[if_neg (by omega)]
  ·split
   ·rw[if_neg (by omega)]
   ·exact kV l _ ha.2 (by omega)
theorem ow (n:Nat):fB (dec n)=decide (n≤4096):=by
 obtain⟨c,t,e1,e2⟩:=nK n
 have hc:48≤c.toNat∧c.toNat≤57:=by have:=e2;unfold bh at this;simpa using this
 have hp:=kV (dec n) 0 (cV n) (by decide)
 rw[iF,Ao,z6] at hp
 unfold fB Lib.atoiAll
 rw[e1]
 simp only
 rw[if_neg (by omega),←e1]
 unfold Lib.parseMag
 rw[if_neg (eJ n),hp]
 by_cases h1:n<18446744073709551616
 ·rw[if_pos h1]
  simp only
  have hn:¬ c.toNat=45:=by omega
  by_cases h2:9223372036854775808≤n
  ·simp[hn,h2];omega
  ·simp[hn,h2];omega
 ·rw[if_neg h1]
  simp
  omega
theorem mh (r:Rt) (h:0<r.d):(dF ⟨(dP r).toArray⟩).all (fun p=>fB p.data.toList)=nh r:=by
 have e:(dF ⟨(dP r).toArray⟩).all (fun p=>fB p.data.toList)=(Lib.splitK [47] 0 (Lib.count (dP r) [47]) (dP r)).all fB:=by
  have:=Lib.splitB_data ⟨#[47]⟩ 0 (Lib.countB ⟨(dP r).toArray⟩ ⟨#[47]⟩) ⟨(dP r).toArray⟩
  have e2:Lib.countB ⟨(dP r).toArray⟩ ⟨#[47]⟩=Lib.count (dP r) [47]:=by unfold Lib.countB;simp
  rw[e2] at this
  unfold dF
  rw[e2]
  simp only[Bm] at this
  rw[←this,List.all_map];rfl
 rw[e]
 unfold dP nh
 split
 ·have h1:=lQ (t:=dec r.d) (gI (cV r.n))
  have h2:=iH (gI (cV r.d))
  have e3:(dec r.n++47 :: dec r.d).drop ((dec r.n).length+([47]:List UInt8).length)=dec r.d:=by simp[List.drop_append]
  rw[Lib.count_hit (by simp) h1,e3,Lib.count_miss h2]
  show (Lib.splitK [47] 0 (0+1) _).all fB=_
  rw[Lib.splitK,if_neg (by rw[h1];simp),h1]
  simp only[Bw,zU]
  rw[e3,Bh rfl]
  simp[Lib.splitK,ow]
 ·rw[Aa,Lib.count_miss (iH (gI (cV r.n)))]
  simp only[Lib.splitK,Bc,List.all_nil,Bool.and_true,ow]
  rw[show r.d=1 by omega];simp
open Go.RowKit Dg Dc
def toQ (r:Rt):Rat:=mkRat (sgz r.minus r.n) r.d
theorem vA {r:Rt} (h:fi r):rt (toQ r)=r:=by unfold toQ;rw[←kj _ _ _ h.pos,kl h]
theorem qk (q:Rat):toQ (rt q)=q:=by
 unfold toQ
 rw[li]
 exact Rat.mkRat_self q
theorem j_ (q:Rat):fi (rt q):=⟨q.den_pos,q.reduced,fun h=>by
 unfold rt at h ⊢
 simp only[decide_eq_true_eq] at h ⊢
 omega⟩
def cF (z:CQ):Bool:=cM (rt z.re)||cM (rt z.im)
def txt (z:CQ):ByteArray:=⟨(b_ (ct z)).toArray⟩
def dC (s:ByteArray):Option CQ:=(eO s.data.toList).map fun z=>⟨toQ z.x,toQ z.y⟩
def ck (z:CQ):ByteArray×Int:=if cF z=true then (⟨#[]⟩,11) else (txt z,0)
theorem gx {s:ByteArray}{l:List UInt8} (h:s.data.toList=l):s=⟨l.toArray⟩:=by
 obtain⟨⟨d⟩⟩:=s
 simp only at h
 rw[h]
theorem tL {r:Rt} (hb:cM r=false) (hp:0<r.d):Sz 2000 r:=by
 obtain⟨h1,h2⟩:=kv hb
 refine⟨?_,hp,?_⟩
 ·exact Nat.lt_of_not_le fun h=>by have:=ir h;omega
 ·exact Nat.lt_of_not_le fun h=>by have:=ir h;omega
theorem fS {s:ByteArray}{z:Vl} (h:eO s.data.toList=some z):∃ q,z=ct q∧dC s=some q∧SzV 2000 (ct q)∧cF q=false∧txt q=s:=by
 have h':=h
 unfold eO at h
 split at h
 ·cases h
 ·split at h
  ·rename_i p q hp hq
   split at h
   ·rename_i hc
    injection h with h
    subst h
    have e1:=vA (dQ hp)
    have e2:=vA (dQ hq)
    have e:(⟨p,q⟩:Vl)=ct ⟨toQ p,toQ q⟩:=by unfold ct;rw[e1,e2]
    refine⟨⟨toQ p,toQ q⟩,e,by unfold dC;rw[h'];rfl,?_,?_,?_⟩
    ·rw[←e];exact⟨tL hc.2.1 (dQ hp).pos,tL hc.2.2 (dQ hq).pos⟩
    ·unfold cF;simp only;rw[e1,e2,hc.2.1,hc.2.2];rfl
    ·unfold txt;rw[←e,hc.1]
   ·cases h
  ·cases h
theorem eC {s:ByteArray} (h:eO s.data.toList=none):dC s=none:=by unfold dC;rw[h];rfl
theorem lO {q:Rat} (h:cF (CQ.real q)=false):dC (txt (CQ.real q))=some (CQ.real q):=by
 have h1:cM (rt q)=false:=by unfold cF CQ.real at h;simp only[Aj] at h;exact h.1
 have e:b_ (ct (CQ.real q))=aI (rt q):=cr (z:=ct (CQ.real q)) (by show (rt 0).n=0;rw[fe])
 unfold dC txt
 simp only[Bm]
 rw[e,nR (j_ q) h1]
 simp only[Bk,qk]
 congr 1
theorem iX {s:ByteArray}{z:CQ} (h:dC s=some z):cF z=false∧txt z=s∧SzV 2000 (ct z):=by
 cases hg:eO s.data.toList with
 | none=>rw[eC hg] at h;cases h
 | some y =>
  obtain⟨q,-,h1,h2,h3,h4⟩:=fS hg
  rw[h1] at h
  injection h with h
  subst h
  exact⟨h3,h4,h2⟩
def aM (φ:CQ→CQ→CQ×Int) (s t:ByteArray):ByteArray×Int :=
 match dC s,dC t with
 | some a,some b=>if (φ a b).2=0 then ck (φ a b).1 else (⟨#[]⟩,(φ a b).2)
 | _,_=>(⟨#[]⟩,10)
def b8 (f:CQ→CQ→CQ) (a b:CQ):CQ×Int:=(f a b,0)
def kC (a b:CQ):CQ×Int:=if b=⟨0,0⟩ then (⟨0,0⟩,12) else (a.div b,0)
def ef (s t:ByteArray):ByteArray:=(aM (b8 CQ.add) s t).1
def gT (s t:ByteArray):ByteArray:=(aM (b8 CQ.sub) s t).1
def cj (s t:ByteArray):ByteArray:=(aM (b8 CQ.mul) s t).1
def aY (s t:ByteArray):ByteArray:=(aM kC s t).1
theorem vY (va:Value) (u:Vl) (w:World) (ha:IsV w va u) :
  Calls Tryz.prog 136 #[va] w fun e w'=>e=.returned (.bool (decide (u.x.n=0∧u.y.n=0)))∧Below w.heap.size w w':=by
 obtain⟨a,b,c,d,e,f,rfl,hx,hy⟩:=ha
 have hb0:=ae w (.cells #[a,b,c,d,e,f] 83)
 have HB:=yX hb0
 have H1:=yX (eX _ _ _ (hx.below hb0))
 have H2:=yX (fun wx (hw:Below (w.alloc (.cells #[a,b,c,d,e,f] 83)).heap.size (w.alloc (.cells #[a,b,c,d,e,f] 83)) wx)=>eX _ _ _ ((hy.below hb0).below hw))
 have q1:=aX.new w a b c d e f 83
 clear hb0
 go_enter Tryz.func136,Tryz.ntmps136
 go_upto_region 1 with fail
 generalize w.alloc (.cells #[a,b,c,d,e,f] 83)=w1 at *
 have a0:=q1.c0;have a1:=q1.c1;have a2:=q1.c2;have a3:=q1.c3;have a4:=q1.c4;have a5:=q1.c5
 by_cases h:u.x.n=0
 ·rw[decide_eq_true h] at H1
  go_wp2_with fail
  refine H1.out.mono ?_
  rintro e w2 ⟨rfl,hb2⟩
  have q2:=q1.below hb2
  have c0:=q2.c0;have c1:=q2.c1;have c2:=q2.c2;have c3:=q2.c3;have c4:=q2.c4;have c5:=q2.c5
  clear a0 a1 a2 a3 a4 a5
  go_wp2_with fail
  refine (H2.out w2 hb2).mono ?_
  rintro e w3 ⟨rfl,hb3⟩
  go_wp2
  go_ret
  exact⟨by simp[h],HB.out.trans ((hb2.trans (hb3.mono hb2.size)).mono HB.out.size)⟩
 ·rw[decide_eq_false h] at H1
  go_wp2_with fail
  refine H1.out.mono ?_
  rintro e w2 ⟨rfl,hb2⟩
  go_wp2
  go_ret
  exact⟨by simp[h],HB.out.trans (hb2.mono HB.out.size)⟩
theorem u9 (va:Value) (z:CQ) (w:World) (ha:IsV w va (ct z)) (hG:Gw w) :
  Calls Tryz.prog 48 #[va] w fun e w'=>e=.returned (.tuple #[.string (ck z).1,.int .i64 (ck z).2])∧Below w.heap.size w w':=by
 have ha0:=ha
 obtain⟨a,b,c,d,e,f,rfl,hx,hy⟩:=ha
 have hb0:=ae w (.cells #[a,b,c,d,e,f] 83)
 have HB:=yX hb0
 have H1:=yX (mH _ _ _ (hx.below hb0) (hG.below hb0))
 have H2:=yX (fun wx (hw:Below (w.alloc (.cells #[a,b,c,d,e,f] 83)).heap.size (w.alloc (.cells #[a,b,c,d,e,f] 83)) wx)=>mH _ _ _ ((hy.below hb0).below hw) ((hG.below hb0).below hw))
 have H3:=yX (fun wx (hw:Below (w.alloc (.cells #[a,b,c,d,e,f] 83)).heap.size (w.alloc (.cells #[a,b,c,d,e,f] 83)) wx)=>mu _ _ _ ((ha0.below hb0).below hw) (cQ _) (cQ _) ((hG.below hb0).below hw))
 have q1:=aX.new w a b c d e f 83
 clear hb0 ha0 hx hy
 go_enter Tryz.func48,Tryz.ntmps48
 go_upto_region 1 with fail
 generalize w.alloc (.cells #[a,b,c,d,e,f] 83)=w1 at *
 have a0:=q1.c0;have a1:=q1.c1;have a2:=q1.c2;have a3:=q1.c3;have a4:=q1.c4;have a5:=q1.c5
 by_cases h:cM (rt z.re)=true
 ·rw[show cM (ct z).x=true from h] at H1
  go_wp2_with fail
  refine H1.out.mono ?_
  rintro e w2 ⟨rfl,hb2⟩
  have hp:ck z=(⟨#[]⟩,11):=by unfold ck cF;rw[h];rfl
  go_wp2
  refine bodyPost_ret (v:=.tuple #[.string ⟨#[]⟩,.int .i64 11]) (by simp[results,Tryz.results48,go_sem]) rfl ⟨by rw[hp],HB.out.trans (hb2.mono HB.out.size)⟩
 ·rw[show cM (ct z).x=false from zY.2 h] at H1
  go_wp2_with fail
  refine H1.out.mono ?_
  rintro e w2 ⟨rfl,hb2⟩
  have q2:=q1.below hb2
  have c0:=q2.c0;have c1:=q2.c1;have c2:=q2.c2;have c3:=q2.c3;have c4:=q2.c4;have c5:=q2.c5
  clear a0 a1 a2 a3 a4 a5
  have H2:=yX (H2.out w2 hb2)
  by_cases h2:cM (rt z.im)=true
  ·rw[show cM (ct z).y=true from h2] at H2
   go_wp2_with fail
   refine H2.out.mono ?_
   rintro e w3 ⟨rfl,hb3⟩
   have hp:ck z=(⟨#[]⟩,11):=by unfold ck cF;rw[h2];simp
   go_wp2
   refine bodyPost_ret (v:=.tuple #[.string ⟨#[]⟩,.int .i64 11]) (by simp[results,Tryz.results48,go_sem]) rfl ⟨by rw[hp],HB.out.trans ((hb2.trans (hb3.mono hb2.size)).mono HB.out.size)⟩
  ·rw[show cM (ct z).y=false from zY.2 h2] at H2
   go_wp2_with fail
   refine H2.out.mono ?_
   rintro e w3 ⟨rfl,hb3⟩
   have hB3:=hb2.trans (hb3.mono hb2.size)
   have q3:=q1.below hB3
   have d0:=q3.c0;have d1:=q3.c1;have d2:=q3.c2;have d3:=q3.c3;have d4:=q3.c4;have d5:=q3.c5
   clear c0 c1 c2 c3 c4 c5
   have hp:ck z=(txt z,0):=by unfold ck cF;rw[if_neg (by simpa using ⟨by simpa using h,by simpa using h2⟩)]
   have HP:=yX hp
   clear hp
   go_wp2_with fail
   refine (H3.out w3 hB3).mono ?_
   rintro e w4 ⟨t,rfl,ht,-,hb4⟩
   go_wp2
   refine bodyPost_ret (v:=.tuple #[.string t,.int .i64 0]) (by simp[results,Tryz.results48,go_sem]) rfl ⟨?_,HB.out.trans ((hB3.trans (hb4.mono hB3.size)).mono HB.out.size)⟩
   rw[HP.out]
   have:t=txt z:=gx ht.out
   rw[this]
theorem cZ {a b c a' b' c':Value} (h:Value.agg #[a,b,c]=.agg #[a',b',c']):a=a'∧b=b'∧c=c':=by simpa using h
structure xS (F:FuncId) (cap:Array Value) (φ:CQ→CQ→CQ×Int) (w:World):Prop where
 en:∀ (args:Array Value) (w:World),(callFunc F args).run Tryz.prog w=.ok (.enter F args) w
 on:∀ (x y:Value) (a b:CQ) (w':World),Below w.heap.size w w'→IsK w' x a→IsK w' y b→Calls Tryz.prog F (#[x,y]++cap) w' fun e w''=>∃ v z,e=.returned (.tuple #[v,.int .i64 (φ a b).2])∧IsV w'' v z∧((φ a b).2=0→z=ct (φ a b).1)∧Below w'.heap.size w' w''
theorem qC (F:FuncId) (cap:Array Value) (φ:CQ→CQ→CQ×Int) (s t:ByteArray) (w:World) (hG:Gw w) (hF:xS F cap φ w) :
  Calls Tryz.prog 59 #[.string s,.string t,.func (.func F) #[] cap] w fun e w'=>e=.returned (.tuple #[.string (aM φ s t).1,.int .i64 (aM φ s t).2])∧Below w.heap.size w w':=by
 have HF:=yX hF
 have EN:=hF.en
 clear hF
 go_enter Tryz.func59,Tryz.ntmps59
 go_wp2_with fail
 refine (hO s w hG).mono ?_
 rintro e w1 ⟨v,ok,rfl,hcase,hb1⟩
 rcases hcase with ⟨z,hz,rfl,hv⟩ | ⟨hz,rfl,rfl⟩
 ·obtain⟨p,rfl,hp1,hp2,-,-⟩:=fS hz
  have HP1:=yX hp1
  clear hz hp1
  obtain⟨_,_,_,_,_,_,rfl,hx0,hy0⟩:=id hv
  obtain⟨xm,xp,xl,xc,xq,xk,xd,hxe⟩:=hx0.form
  obtain⟨ym,yp,yl,yc,yq,yk,yd,hye⟩:=hy0.form
  obtain⟨rfl,rfl,rfl⟩:=cZ hxe
  obtain⟨rfl,rfl,rfl⟩:=cZ hye
  clear hxe hye hx0 hy0
  go_upto_region 2 with fail
  have q1:=aX.new w1 (.bool xm) (.slice xp xl xc) (.slice xq xk xd) (.bool ym) (.slice yp yl yc) (.slice yq yk yd) 83
  have m1:=ae w1 (.cells #[.bool xm,.slice xp xl xc,.slice xq xk xd,.bool ym,.slice yp yl yc,.slice yq yk yd] 83)
  generalize w1.alloc (.cells #[.bool xm,.slice xp xl xc,.slice xq xk xd,.bool ym,.slice yp yl yc,.slice yq yk yd] 83)=w2 at *
  have B1:=yX q1
  have HV:=yX (hv.below m1)
  have hb2:=hb1.trans (m1.mono hb1.size)
  clear q1 hv m1
  go_wp2_with fail
  refine (hO t w2 (hG.below hb2)).mono ?_
  rintro e w3 ⟨v2,ok2,rfl,hcase,hb3⟩
  have hB3:=hb2.trans (hb3.mono hb2.size)
  rcases hcase with ⟨z2,hz2,rfl,hv2⟩ | ⟨hz2,rfl,rfl⟩
  ·obtain⟨q,rfl,hr1,hr2,-,-⟩:=fS hz2
   have HP2:=yX hr1
   clear hz2 hr1
   obtain⟨_,_,_,_,_,_,rfl,hx0,hy0⟩:=id hv2
   obtain⟨xm',xp',xl',xc',xq',xk',xd',hxe⟩:=hx0.form
   obtain⟨ym',yp',yl',yc',yq',yk',yd',hye⟩:=hy0.form
   obtain⟨rfl,rfl,rfl⟩:=cZ hxe
   obtain⟨rfl,rfl,rfl⟩:=cZ hye
   clear hxe hye hx0 hy0
   go_upto_region 5 with fail
   have q2:=aX.new w3 (.bool xm') (.slice xp' xl' xc') (.slice xq' xk' xd') (.bool ym') (.slice yp' yl' yc') (.slice yq' yk' yd') 83
   have m2:=ae w3 (.cells #[.bool xm',.slice xp' xl' xc',.slice xq' xk' xd',.bool ym',.slice yp' yl' yc',.slice yq' yk' yd'] 83)
   generalize w3.alloc (.cells #[.bool xm',.slice xp' xl' xc',.slice xq' xk' xd',.bool ym',.slice yp' yl' yc',.slice yq' yk' yd'] 83)=w4 at *
   have hb4:=hb3.trans (m2.mono hb3.size)
   have hB4:=hb2.trans (hb4.mono hb2.size)
   have q1:=B1.out.below hb4
   have HC:=yX (HF.out.on _ _ p q w4 hB4 ⟨HV.out.below hb4,hp2.mono (by decide)⟩ ⟨hv2.below m2,hr2.mono (by decide)⟩)
   have a0:=q1.c0;have a1:=q1.c1;have a2:=q1.c2;have a3:=q1.c3;have a4:=q1.c4;have a5:=q1.c5
   have b0:=q2.c0;have b1:=q2.c1;have b2:=q2.c2;have b3:=q2.c3;have b4:=q2.c4;have b5:=q2.c5
   have HB4:=yX hB4
   clear q1 q2 m2 hv2 hb3 hb4 hB4 hB3 hb2 HF
   go_wp2_with fail
   refine HC.out.mono ?_
   rintro e w5 ⟨v3,z3,rfl,hv3,hz3,hb5⟩
   obtain⟨err,herr⟩:∃ n,n=(φ p q).2:=⟨_,rfl⟩
   rw[←herr]
   have hB5:=HB4.out.trans (hb5.mono HB4.out.size)
   obtain⟨_,_,_,_,_,_,rfl,hx0,hy0⟩:=id hv3
   obtain⟨um,up,ul,uc,uq,uk,ud,hxe⟩:=hx0.form
   obtain⟨vm,vp,vl,vc,vq,vk,vd,hye⟩:=hy0.form
   obtain⟨rfl,rfl,rfl⟩:=cZ hxe
   obtain⟨rfl,rfl,rfl⟩:=cZ hye
   clear hxe hye hx0 hy0 a0 a1 a2 a3 a4 a5 b0 b1 b2 b3 b4 b5 HC HV B1 HB4
   by_cases he:err=0
   ·have hbc:aM φ s t=ck (φ p q).1:=by unfold aM;rw[HP1.out,HP2.out];simp only;rw[if_pos (by rw[←herr];exact he)]
    have hz4:=hz3 (by rw[←herr];exact he)
    have HE:=yX hbc
    rw[hz4] at hv3
    clear hbc hz3 herr hz4
    subst he
    go_upto_region 8 with fail
    have q3:=aX.new w5 (.bool um) (.slice up ul uc) (.slice uq uk ud) (.bool vm) (.slice vp vl vc) (.slice vq vk vd) 83
    have m3:=ae w5 (.cells #[.bool um,.slice up ul uc,.slice uq uk ud,.bool vm,.slice vp vl vc,.slice vq vk vd] 83)
    generalize w5.alloc (.cells #[.bool um,.slice up ul uc,.slice uq uk ud,.bool vm,.slice vp vl vc,.slice vq vk vd] 83)=w6 at *
    have a0:=q3.c0;have a1:=q3.c1;have a2:=q3.c2;have a3:=q3.c3;have a4:=q3.c4;have a5:=q3.c5
    have HB6:=yX (hB5.trans (m3.mono hB5.size))
    have HG:=yX (hG.below HB6.out)
    have HV:=yX (hv3.below m3)
    clear q3 m3 hv3 hB5 hb5
    go_wp2_with fail
    refine (u9 _ _ _ HV.out HG.out).mono ?_
    rintro e w7 ⟨rfl,hb7⟩
    go_wp2
    refine bodyPost_ret (v:=.tuple #[.string (ck (φ p q).1).1,.int .i64 (ck (φ p q).1).2]) (by simp[results,Tryz.results59,go_sem]) rfl ⟨by rw[HE.out],HB6.out.trans (hb7.mono HB6.out.size)⟩
   ·have hbc:aM φ s t=(⟨#[]⟩,err):=by unfold aM;rw[HP1.out,HP2.out];simp only;rw[if_neg (by rw[←herr];exact he),herr]
    have HE:=yX hbc
    have hne:(!(err == 0))=true:=by simpa using he
    clear hbc hz3 herr
    go_wp2
    refine bodyPost_ret (v:=.tuple #[.string ⟨#[]⟩,.int .i64 err]) (by simp[results,Tryz.results59,go_sem]) rfl ⟨by rw[HE.out],hB5.trans ((ae w5 _).mono hB5.size)⟩
  ·have e:aM φ s t=(⟨#[]⟩,10):=by unfold aM;rw[eC hz2,HP1.out]
   have HE:=yX e
   clear e hz2
   unfold fg
   go_wp2
   refine bodyPost_ret (v:=.tuple #[.string ⟨#[]⟩,.int .i64 10]) (by simp[results,Tryz.results59,go_sem]) rfl ⟨by rw[HE.out],hB3.trans ((ae w3 _).mono hB3.size)⟩
 ·have e:aM φ s t=(⟨#[]⟩,10):=by unfold aM;rw[eC hz]
  have HE:=yX e
  clear e hz
  unfold fg
  go_wp2
  refine bodyPost_ret (v:=.tuple #[.string ⟨#[]⟩,.int .i64 10]) (by simp[results,Tryz.results59,go_sem]) rfl ⟨by rw[HE.out],hb1.trans ((ae w1 _).mono hb1.size)⟩
end Go.Proofs.YtomkanblohhpfaaGreatDoor
