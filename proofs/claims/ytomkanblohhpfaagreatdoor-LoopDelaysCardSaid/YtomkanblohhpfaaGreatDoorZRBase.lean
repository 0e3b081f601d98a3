/- Lemmas of this claim. -/
import Derived.Test.YtomkanblohhpfaaGreatDoorZMach
import Derived.Test.YtomkanblohhpfaaGreatDoorZNat
import Derived.Test.YtomkanblohhpfaaGreatDoorZGet
import Derived.Test.YtomkanblohhpfaaGreatDoorZNQ
import Derived.Test.YtomkanblohhpfaaGreatDoorZCoef
set_option linter.all false
set_option maxRecDepth 100000
set_option maxHeartbeats 8000000
namespace Go.Proofs.YtomkanblohhpfaaGreatDoor
open Go.RowKit
def i64s (l:List Nat):List Value:=l.map fun (d:Nat)=>Value.int .i64 (d:Int)
def vN (w:World) (g cap:Nat) (l:List Nat):Prop:=w.ownsRow g 3 1 (.slice (some ⟨g,0,none⟩) l.length cap) l.length (i64s l)
theorem vN.drewN {w:World}{g cap:Nat}{l:List Nat} (h:vN w g cap l) (n:Nat):vN (w.drewN n) g cap l:=h
open Go.RowKit Dg
def RR:Nat:=10000
open Dg
theorem cF (d:Nat) (l:List Nat):val RR (d :: l)=d+RR*val RR l:=rfl
open Dg Dc
/-! ### reading -/
/-- how many digits a text begins with, m at most -/
def ky:List UInt8→Nat→Nat
 | [],_=>0
 | _ :: _,0=>0
 | c :: s,m+1=>if bu c then ky s m+1 else 0
def jr (s:List UInt8):Nat×List UInt8:=(bf (s.take (ky s 2001)),s.drop (ky s 2001))
def ix (s:List UInt8):Rt×List UInt8 :=
 if ky s 2001=0 then (⟨false,1,1⟩,s)
 else if (jr s).2.head?=some 47∧(jr ((jr s).2.drop 1)).1≠0 then (cD false (jr s).1 (jr ((jr s).2.drop 1)).1,(jr ((jr s).2.drop 1)).2)
 else (⟨false,(jr s).1,1⟩,(jr s).2)
def uR (r:Rt):Rt:=⟨!r.minus&&decide (r.n≠0),r.n,r.d⟩
def fx (s:List UInt8):Rt×List UInt8 :=
 if s.head?=some 45 then (uR (ix (s.drop 1)).1,(ix (s.drop 1)).2)
 else if s.head?=some 43 then ix (s.drop 1) else ix s
def kc:Rt:=⟨false,0,1⟩
def gR (s:List UInt8):Vl :=
 if (fx s).2=[105] then ⟨kc,(fx s).1⟩
 else if (fx s).2=[] then ⟨(fx s).1,kc⟩
 else ⟨(fx s).1,(fx (fx s).2).1⟩
def rOK (s:List UInt8):Bool:=decide (de (gR s)=s)&&!(cw (gR s).x||cw (gR s).y)
def tw (s:List UInt8):Bool:=rOK s&&decide ((gR s).y.n=0)
structure eG (r:Rt):Prop where
 pos:0<r.d
 gcd:Nat.gcd r.n r.d=1
 sign:r.minus=true→r.n≠0
theorem jJ {mi:Bool}{n d:Nat} (h:0<d):eG (cD mi n d):=by
 unfold cD
 split
 ·exact⟨by decide,by decide,fun h=>by cases h⟩
 ·rename_i hn
  have hg:0<Nat.gcd n d:=yZ _ h
  refine⟨Ag (z7 _ h) hg,?_,fun _=>?_⟩
  ·rw[Nat.gcd_div (zZ ..) (Nat.gcd_dvd_right ..),Nat.div_self hg]
  have:0<n / Nat.gcd n d:=Ag (Nat.le_of_dvd (by omega) (zZ ..)) hg
  show n / Nat.gcd n d≠0
  omega
theorem jI (n:Nat):eG ⟨false,n,1⟩:=⟨Nat.one_pos,Nat.gcd_one_right n,fun h=>by cases h⟩
theorem rZ {r:Rt} (h:eG r):eG (uR r):=⟨h.pos,h.gcd,fun hm=>by unfold uR at hm;simp at hm;exact hm.2⟩
theorem kH (s:List UInt8):eG (ix s).1:=by
 unfold ix
 split
 ·exact jI 1
 ·split
  ·rename_i h;exact jJ (by have:=h.2;omega)
  ·exact jI _
theorem gh (s:List UInt8):eG (fx s).1:=by
 unfold fx
 split
 ·exact rZ (kH _)
 ·split<;>exact kH _
theorem kI:eG kc:=jI 0
theorem qo (s:List UInt8):eG (gR s).x∧eG (gR s).y:=by
 unfold gR
 split
 ·exact⟨kI,gh _⟩
 ·split
  ·exact⟨gh _,kI⟩
  ·exact⟨gh _,gh _⟩
theorem dx {s:List UInt8}{r:Rt} (h:bN s=some r):eG r:=by
 unfold bN at h
 split at h
 ·cases h
 ·split at h
  ·split at h
   ·cases h
   ·split at h
    ·cases h
    ·rename_i h0;injection h with h;subst h;exact jJ (by omega)
  ·injection h with h;subst h;exact jJ (by decide)
theorem jA {r:Rt} (h:eG r):cD r.minus r.n r.d=r:=by
 obtain⟨m,n,d⟩:=r
 have h1:=h.pos
 have h2:=h.gcd
 have h3:=h.sign
 simp only at h1 h2 h3 ⊢
 unfold cD
 rw[h2,Af,Af]
 split
 ·rename_i h0
  subst h0
  rw[Nat.gcd_zero_left] at h2
  cases m
  ·rw[h2]
  ·exact absurd rfl (h3 rfl)
 ·rfl
/-! ### texts of digits -/
theorem se (n:Nat):∃ c r,dec n=c :: r∧bu c=true:=by
 cases h:dec n with
 | nil=>exact absurd h (fe n)
 | cons c r =>
  have:=gj n
  rw[h,List.all_cons,xN] at this
  exact⟨c,r,rfl,this.1⟩
theorem lG {c:UInt8} (h:bu c=true):c≠43∧c≠45∧c≠47∧c≠105:=by
 unfold bu at h
 simp only[xN,decide_eq_true_eq] at h
 refine⟨?_,?_,?_,?_⟩<;>(intro e;subst e;revert h;decide)
theorem mr:∀ (l t:List UInt8) (m:Nat),l.all bu=true→l.length≤m→(∀ c,t.head?=some c→bu c=false)→ky (l++t) m=l.length
 | [],[],m,_,_,_=>by simp[ky]
 | [],c :: t,0,_,_,_=>by simp[ky]
 | [],c :: t,m+1,_,_,h=>by
  have:=h c rfl
  simp[ky,this]
 | c :: l,t,0,_,h,_=>by simp at h
 | c :: l,t,m+1,ha,hl,h=>by
  rw[List.all_cons,xN] at ha
  rw[x_,ky,if_pos ha.1,mr l t m ha.2 (by simpa using hl) h];rfl
theorem kb {n:Nat}{t:List UInt8} (hl:(dec n).length≤2001) (h:∀ c,t.head?=some c→bu c=false):jr (dec n++t)=(n,t)∧ky (dec n++t) 2001=(dec n).length:=by
 have e:=mr (dec n) t 2001 (gj n) hl h
 refine⟨?_,e⟩
 unfold jr
 rw[e,List.take_left',List.drop_left',jN]<;>rfl
def kw (r:Rt):List UInt8:=dec r.n++(if 1<r.d then 47 :: dec r.d else [])
theorem gE (r:Rt):a7 r=(if r.minus then [45] else [])++kw r:=by unfold a7 kw;rw[yt]
theorem jG {r:Rt} (h:cw r=false):(dec r.n).length≤2000∧(dec r.d).length≤2000:=by
 unfold cw at h
 simp only[yV,decide_eq_false_iff_not] at h
 omega
theorem mg (r:Rt):∃ c t,kw r=c :: t∧bu c=true:=by
 obtain⟨c,t,h1,h2⟩:=se r.n
 exact⟨c,t++_,by unfold kw;rw[h1];rfl,h2⟩
theorem rh {r:Rt} (h:eG r) (hb:cw r=false):ix (kw r)=(⟨false,r.n,r.d⟩,[]):=by
 obtain⟨h1,h2⟩:=jG hb
 have hp:=d6 r.n
 have hpos:=h.pos
 unfold kw
 split
 ·rename_i hd
  obtain⟨e1,e2⟩:=kb (n:=r.n) (t:=47 :: dec r.d) (by omega) (fun c hc=>by simp at hc;subst hc;decide)
  obtain⟨e3,_⟩:=kb (n:=r.d) (t:=[]) (by omega) (fun c hc=>by cases hc)
  rw[yR] at e3
  unfold ix
  rw[e2,if_neg (by omega),e1]
  simp only[Ab,List.drop_one,List.tail_cons]
  rw[e3,if_pos ⟨by simp,by show r.d≠0;omega⟩]
  have:=jA (r:=⟨false,r.n,r.d⟩) ⟨h.pos,h.gcd,fun h=>by cases h⟩
  rw[this]
 ·rename_i hd
  obtain⟨e1,e2⟩:=kb (n:=r.n) (t:=[]) (by omega) (fun c hc=>by cases hc)
  rw[show r.d=1 by omega]
  unfold ix
  rw[e2,if_neg (by omega),e1]
  rfl
theorem oB {r:Rt} (h:eG r) (hb:cw r=false):fx (a7 r)=(r,[]):=by
 rw[gE]
 have hp:=rh h hb
 obtain⟨c,t,e1,e2⟩:=mg r
 obtain⟨m,n,d⟩:=r
 cases m
 ·simp only[xO,if_false,x9]
  obtain⟨n1,n2,_⟩:=lG e2
  unfold fx
  rw[e1] at hp ⊢
  simp only[Ab,Option.some.injEq]
  rw[if_neg n2,if_neg n1];exact hp
 ·simp only[if_true]
  have hs:=h.sign rfl
  simp only at hs
  unfold fx
  simp only[x_,x9,Ab,if_true,List.drop_one,List.tail_cons]
  rw[hp]
  unfold uR
  simp[hs]
theorem oA {r:Rt} (h:eG r) (hb:cw r=false):gR (a7 r)=⟨r,kc⟩:=by
 unfold gR
 rw[oB h hb]
 simp
theorem cO {z:Vl} (h:z.y.n=0):de z=a7 z.x:=by unfold de;rw[if_pos h]
/-! ### the program's reading of such a text -/
theorem kA {l:List UInt8}{c d:UInt8} (h:c≠d):Lib.hasSuffix (l++[c]) [d]=false:=by
 unfold Lib.hasSuffix
 rw[yg]
 intro he
 rw[List.isSuffixOf_iff_suffix] at he
 obtain⟨t,ht⟩:=he
 have:=List.append_inj_right' ht rfl
 simp at this
 exact h this.symm
theorem mu (n:Nat):∃ l c,dec n=l++[c]∧bu c=true:=by
 have hne:=fe n
 have:=zO hne
 exact⟨_,_,this.symm,xV.1 (gj n) _ (List.getLast_mem hne)⟩
theorem rA (r:Rt):∃ l c,a7 r=l++[c]∧bu c=true:=by
 rw[gE]
 unfold kw
 by_cases hd:1<r.d
 all_goals first | rw[if_pos hd] | rw[if_neg hd]
 ·obtain⟨l,c,h1,h2⟩:=mu r.d
  exact⟨(if r.minus then [45] else [])++(dec r.n++47 :: l),c,by rw[h1];simp only[yt,x_],h2⟩
 ·obtain⟨l,c,h1,h2⟩:=mu r.n
  exact⟨(if r.minus then [45] else [])++l,c,by rw[h1];simp only[yt,yR],h2⟩
theorem ou (r:Rt):eD (a7 r)=(a7 r,[48]):=by
 obtain⟨l,c,h1,h2⟩:=rA r
 have:Lib.hasSuffix (a7 r) [105]=false:=by rw[h1];exact kA (lG h2).2.2.2
 unfold eD
 rw[this];rfl
theorem j_ (c d:UInt8) (l:List UInt8):Lib.hasPrefix (c :: l) [d]=decide (c=d):=by
 unfold Lib.hasPrefix
 rw[Bool.eq_iff_iff,zR]
 simp[List.cons_prefix_cons,eq_comm]
theorem rD (r:Rt):Lib.trimPrefix (a7 r) [45]=kw r∧Lib.hasPrefix (a7 r) [45]=r.minus:=by
 rw[gE]
 obtain⟨c,t,e1,e2⟩:=mg r
 unfold Lib.trimPrefix
 cases r.minus
 ·simp only[xO,if_false,x9]
  rw[e1,j_,decide_eq_false (lG e2).2.1]
  exact⟨rfl,rfl⟩
 ·simp only[if_true,x_,x9]
  rw[j_,decide_eq_true rfl]
  exact⟨rfl,rfl⟩
theorem lM {s:List UInt8}{d:UInt8}{i:Nat}:Lib.occAt s [d] i=true↔s[i]?=some d:=by
 unfold Lib.occAt
 rw[zR]
 constructor
 ·rintro⟨t,ht⟩
  have:(s.drop i)[0]?=some d:=by rw[←ht];rfl
  rw[y7] at this
  simpa using this
 ·intro h
  obtain⟨hi,e⟩:=yi.1 h
  exact⟨s.drop (i+1),by rw[yu hi,e];rfl⟩
theorem n7 {s:List UInt8}{d:UInt8} (h:d∉s):Lib.index s [d]=-1:=by
 refine Lib.index_none (fun j _=>?_)
 rw[yg]
 intro he
 exact h (zl (lM.1 he))
theorem qI {l t:List UInt8}{d:UInt8} (h:d∉l):Lib.index (l++d :: t) [d]=l.length:=by
 refine Lib.index_first (by simp) (lM.2 (by simp)) (fun j hj=>?_)
 rw[yg]
 intro he
 have:=lM.1 he
 rw[List.getElem?_append_left hj] at this
 exact h (zl this)
theorem m0 {l:List UInt8} (h:l.all bu=true):(47:UInt8)∉l:=fun hm=>(lG (xV.1 h _ hm)).2.2.1 rfl
theorem fN (n:Nat):bn (dec n)=some n:=by
 unfold bn
 rw[if_pos ⟨fe n,gj n⟩,jN]
theorem ng {r:Rt} (h:eG r):bN (a7 r)=some r:=by
 obtain⟨e1,e2⟩:=rD r
 have hpos:=h.pos
 unfold bN
 rw[e1,e2]
 unfold kw Lib.cut
 by_cases hd:1<r.d
 all_goals first | rw[if_pos hd] | rw[if_neg hd]
 ·rw[qI (m0 (gj r.n)),if_pos (by omega)]
  simp only[Int.toNat_natCast]
  rw[List.take_left' rfl,fN]
  simp only[if_true]
  have:(dec r.n++47 :: dec r.d).drop ((dec r.n).length+([47]:List UInt8).length)=dec r.d:=by simp[List.drop_append]
  rw[this,fN]
  simp only
  rw[if_neg (by omega),jA h]
 ·rw[yR,n7 (m0 (gj r.n)),if_neg (by omega)]
  simp only
  rw[fN]
  simp only[xO,if_false]
  have hd1:r.d=1:=by omega
  have:=jA h
  rw[hd1] at this
  rw[this]
theorem tV {r:Rt} (hb:cw r=false):(a7 r).length≤4002:=by
 obtain⟨h1,h2⟩:=jG hb
 rw[gE]
 unfold kw
 rw[xI,xI]
 split<;>split<;>simp<;>omega
theorem mH {r:Rt} (h:eG r) (hb:cw r=false):eB (a7 r)=some ⟨r,kc⟩:=by
 have hl:=tV hb
 unfold eB
 rw[if_neg (by omega),ou,ng h]
 simp only
 rw[nh]
 simp only
 rw[if_pos ⟨cO rfl,hb,gD⟩];rfl
theorem tA (s:List UInt8):(eU s=true↔∃ r,eG r∧cw r=false∧s=a7 r)∧(tw s=true↔∃ r,eG r∧cw r=false∧s=a7 r):=by
 refine⟨⟨fun h=>?_,?_⟩,⟨fun h=>?_,?_⟩⟩
 ·unfold eU at h
  cases hg:eB s with
  | none=>rw[hg] at h;cases h
  | some z =>
   rw[hg] at h
   have hy:=of_decide_eq_true h
   unfold eB at hg
   split at hg
   ·cases hg
   ·split at hg
    ·rename_i p q hp hq
     split at hg
     ·rename_i hc
      injection hg with hg
      subst hg
      refine⟨p,dx hp,hc.2.1,?_⟩
      rw[←hc.1]
      exact cO hy
     ·cases hg
    ·cases hg
 ·rintro⟨r,h1,h2,rfl⟩
  unfold eU
  rw[mH h1 h2];rfl
 ·unfold tw rOK at h
  simp only[xN,decide_eq_true_eq,Bool.not_eq_true',yV] at h
  exact⟨(gR s).x,(qo s).1,h.1.2.1,by rw[←cO h.2];exact h.1.1.symm⟩
 ·rintro⟨r,h1,h2,rfl⟩
  unfold tw rOK
  rw[oA h1 h2,cO rfl]
  simp[h2,gD,show cw kc=false from gD,show kc.n=0 from rfl]
open Go.RowKit Dg Dc
def toQ (r:Rt):Rat:=mkRat (sgz r.minus r.n) r.d
theorem tH {r:Rt} (h:eG r):rt (toQ r)=r:=by unfold toQ;rw[←jz _ _ _ h.pos,jA h]
theorem wJ (q:Rat):toQ (rt q)=q:=by
 unfold toQ
 rw[ki]
 exact Rat.mkRat_self q
theorem o9 (q:Rat):eG (rt q):=⟨q.den_pos,q.reduced,fun h=>by
 unfold rt at h ⊢
 simp only[decide_eq_true_eq] at h ⊢
 omega⟩
def dV (z:CQ):Bool:=cw (rt z.re)||cw (rt z.im)
def txt (z:CQ):ByteArray:=⟨(de (ct z)).toArray⟩
def el (s:ByteArray):Option CQ:=(eB s.data.toList).map fun z=>⟨toQ z.x,toQ z.y⟩
def ci (z:CQ):ByteArray×Int:=if dV z=true then (⟨#[]⟩,11) else (txt z,0)
theorem fG {s:ByteArray}{l:List UInt8} (h:s.data.toList=l):s=⟨l.toArray⟩:=by
 obtain⟨⟨d⟩⟩:=s
 simp only at h
 rw[h]
theorem rW {r:Rt} (hb:cw r=false) (hp:0<r.d):Sz 2000 r:=by
 obtain⟨h1,h2⟩:=jG hb
 refine⟨?_,hp,?_⟩
 ·exact Nat.lt_of_not_le fun h=>by have:=gN h;omega
 ·exact Nat.lt_of_not_le fun h=>by have:=gN h;omega
theorem fg {s:ByteArray}{z:Vl} (h:eB s.data.toList=some z):∃ q,z=ct q∧el s=some q∧SzV 2000 (ct q)∧dV q=false∧txt q=s:=by
 have h':=h
 unfold eB at h
 split at h
 ·cases h
 ·split at h
  ·rename_i p q hp hq
   split at h
   ·rename_i hc
    injection h with h
    subst h
    have e1:=tH (dx hp)
    have e2:=tH (dx hq)
    have e:(⟨p,q⟩:Vl)=ct ⟨toQ p,toQ q⟩:=by unfold ct;rw[e1,e2]
    refine⟨⟨toQ p,toQ q⟩,e,by unfold el;rw[h'];rfl,?_,?_,?_⟩
    ·rw[←e];exact⟨rW hc.2.1 (dx hp).pos,rW hc.2.2 (dx hq).pos⟩
    ·unfold dV;simp only;rw[e1,e2,hc.2.1,hc.2.2];rfl
    ·unfold txt;rw[←e,hc.1]
   ·cases h
  ·cases h
theorem dR {s:ByteArray} (h:eB s.data.toList=none):el s=none:=by unfold el;rw[h];rfl
theorem qF {q:Rat} (h:dV (CQ.real q)=false):el (txt (CQ.real q))=some (CQ.real q):=by
 have h1:cw (rt q)=false:=by unfold dV CQ.real at h;simp only[yV] at h;exact h.1
 have e:de (ct (CQ.real q))=a7 (rt q):=cO (z:=ct (CQ.real q)) (by show (rt 0).n=0;rw[iz])
 unfold el txt
 simp only[List.toList_toArray]
 rw[e,mH (o9 q) h1]
 simp only[Ae,wJ]
 congr 1
theorem mG {s:ByteArray}{z:CQ} (h:el s=some z):dV z=false∧txt z=s∧SzV 2000 (ct z):=by
 cases hg:eB s.data.toList with
 | none=>rw[dR hg] at h;cases h
 | some y =>
  obtain⟨q,-,h1,h2,h3,h4⟩:=fg hg
  rw[h1] at h
  injection h with h
  subst h
  exact⟨h3,h4,h2⟩
def bL (φ:CQ→CQ→CQ×Int) (s t:ByteArray):ByteArray×Int :=
 match el s,el t with
 | some a,some b=>if (φ a b).2=0 then ci (φ a b).1 else (⟨#[]⟩,(φ a b).2)
 | _,_=>(⟨#[]⟩,10)
def ew (f:CQ→CQ→CQ) (a b:CQ):CQ×Int:=(f a b,0)
def mD (a b:CQ):CQ×Int:=if b=⟨0,0⟩ then (⟨0,0⟩,12) else (a.div b,0)
def fF (s t:ByteArray):ByteArray:=(bL (ew CQ.add) s t).1
def fW (s t:ByteArray):ByteArray:=(bL (ew CQ.sub) s t).1
def bX (s t:ByteArray):ByteArray:=(bL (ew CQ.mul) s t).1
def bJ (s t:ByteArray):ByteArray:=(bL mD s t).1
theorem ue (va:Value) (u:Vl) (w:World) (ha:IsV w va u) :
  Calls Tryz.prog 136 #[va] w fun e w'=>e=.returned (.bool (decide (u.x.n=0∧u.y.n=0)))∧Below w.heap.size w w':=by
 obtain⟨a,b,c,d,e,f,rfl,hx,hy⟩:=ha
 have hb0:=ac w (.cells #[a,b,c,d,e,f] 83)
 have HB:=xo hb0
 have H1:=xo (ek _ _ _ (hx.below hb0))
 have H2:=xo (fun wx (hw:Below (w.alloc (.cells #[a,b,c,d,e,f] 83)).heap.size (w.alloc (.cells #[a,b,c,d,e,f] 83)) wx)=>ek _ _ _ ((hy.below hb0).below hw))
 have q1:=aV.new w a b c d e f 83
 clear hb0
 go_enter Tryz.func136,Tryz.ntmps136
 go_upto_region 1 with fail
 generalize w.alloc (.cells #[a,b,c,d,e,f] 83)=w1 at *
 have a0:=q1.c0;have a1:=q1.c1;have a2:=q1.c2;have a3:=q1.c3;have a4:=q1.c4;have a5:=q1.c5
 by_cases h:u.x.n=0
 ·rw[decide_eq_true h] at H1
  go_wp2_with fail
  refine H1.out.mono ?_
  rintro e w2 ⟨rfl,hb2⟩
  have q2:=q1.below hb2
  have c0:=q2.c0;have c1:=q2.c1;have c2:=q2.c2;have c3:=q2.c3;have c4:=q2.c4;have c5:=q2.c5
  clear a0 a1 a2 a3 a4 a5
  go_wp2_with fail
  refine (H2.out w2 hb2).mono ?_
  rintro e w3 ⟨rfl,hb3⟩
  go_wp2
  go_ret
  exact⟨by simp[h],HB.out.trans ((hb2.trans (hb3.mono hb2.size)).mono HB.out.size)⟩
 ·rw[decide_eq_false h] at H1
  go_wp2_with fail
  refine H1.out.mono ?_
  rintro e w2 ⟨rfl,hb2⟩
  go_wp2
  go_ret
  exact⟨by simp[h],HB.out.trans (hb2.mono HB.out.size)⟩
theorem tr (va:Value) (z:CQ) (w:World) (ha:IsV w va (ct z)) (hG:Gw w) :
  Calls Tryz.prog 48 #[va] w fun e w'=>e=.returned (.tuple #[.string (ci z).1,.int .i64 (ci z).2])∧Below w.heap.size w w':=by
 have ha0:=ha
 obtain⟨a,b,c,d,e,f,rfl,hx,hy⟩:=ha
 have hb0:=ac w (.cells #[a,b,c,d,e,f] 83)
 have HB:=xo hb0
 have H1:=xo (lz _ _ _ (hx.below hb0) (hG.below hb0))
 have H2:=xo (fun wx (hw:Below (w.alloc (.cells #[a,b,c,d,e,f] 83)).heap.size (w.alloc (.cells #[a,b,c,d,e,f] 83)) wx)=>lz _ _ _ ((hy.below hb0).below hw) ((hG.below hb0).below hw))
 have H3:=xo (fun wx (hw:Below (w.alloc (.cells #[a,b,c,d,e,f] 83)).heap.size (w.alloc (.cells #[a,b,c,d,e,f] 83)) wx)=>lm _ _ _ ((ha0.below hb0).below hw) (da _) (da _) ((hG.below hb0).below hw))
 have q1:=aV.new w a b c d e f 83
 clear hb0 ha0 hx hy
 go_enter Tryz.func48,Tryz.ntmps48
 go_upto_region 1 with fail
 generalize w.alloc (.cells #[a,b,c,d,e,f] 83)=w1 at *
 have a0:=q1.c0;have a1:=q1.c1;have a2:=q1.c2;have a3:=q1.c3;have a4:=q1.c4;have a5:=q1.c5
 by_cases h:cw (rt z.re)=true
 ·rw[show cw (ct z).x=true from h] at H1
  go_wp2_with fail
  refine H1.out.mono ?_
  rintro e w2 ⟨rfl,hb2⟩
  have hp:ci z=(⟨#[]⟩,11):=by unfold ci dV;rw[h];rfl
  go_wp2
  refine bodyPost_ret (v:=.tuple #[.string ⟨#[]⟩,.int .i64 11]) (by simp[results,Tryz.results48,go_sem]) rfl ⟨by rw[hp],HB.out.trans (hb2.mono HB.out.size)⟩
 ·rw[show cw (ct z).x=false from yg.2 h] at H1
  go_wp2_with fail
  refine H1.out.mono ?_
  rintro e w2 ⟨rfl,hb2⟩
  have q2:=q1.below hb2
  have c0:=q2.c0;have c1:=q2.c1;have c2:=q2.c2;have c3:=q2.c3;have c4:=q2.c4;have c5:=q2.c5
  clear a0 a1 a2 a3 a4 a5
  have H2:=xo (H2.out w2 hb2)
  by_cases h2:cw (rt z.im)=true
  ·rw[show cw (ct z).y=true from h2] at H2
   go_wp2_with fail
   refine H2.out.mono ?_
   rintro e w3 ⟨rfl,hb3⟩
   have hp:ci z=(⟨#[]⟩,11):=by unfold ci dV;rw[h2];simp
   go_wp2
   refine bodyPost_ret (v:=.tuple #[.string ⟨#[]⟩,.int .i64 11]) (by simp[results,Tryz.results48,go_sem]) rfl ⟨by rw[hp],HB.out.trans ((hb2.trans (hb3.mono hb2.size)).mono HB.out.size)⟩
  ·rw[show cw (ct z).y=false from yg.2 h2] at H2
   go_wp2_with fail
   refine H2.out.mono ?_
   rintro e w3 ⟨rfl,hb3⟩
   have hB3:=hb2.trans (hb3.mono hb2.size)
   have q3:=q1.below hB3
   have d0:=q3.c0;have d1:=q3.c1;have d2:=q3.c2;have d3:=q3.c3;have d4:=q3.c4;have d5:=q3.c5
   clear c0 c1 c2 c3 c4 c5
   have hp:ci z=(txt z,0):=by unfold ci dV;rw[if_neg (by simpa using ⟨by simpa using h,by simpa using h2⟩)]
   have HP:=xo hp
   clear hp
   go_wp2_with fail
   refine (H3.out w3 hB3).mono ?_
   rintro e w4 ⟨t,rfl,ht,-,hb4⟩
   go_wp2
   refine bodyPost_ret (v:=.tuple #[.string t,.int .i64 0]) (by simp[results,Tryz.results48,go_sem]) rfl ⟨?_,HB.out.trans ((hB3.trans (hb4.mono hB3.size)).mono HB.out.size)⟩
   rw[HP.out]
   have:t=txt z:=fG ht.out
   rw[this]
theorem cI {a b c a' b' c':Value} (h:Value.agg #[a,b,c]=.agg #[a',b',c']):a=a'∧b=b'∧c=c':=by simpa using h
structure vK (F:FuncId) (cap:Array Value) (φ:CQ→CQ→CQ×Int) (w:World):Prop where
 en:∀ (args:Array Value) (w:World),(callFunc F args).run Tryz.prog w=.ok (.enter F args) w
 on:∀ (x y:Value) (a b:CQ) (w':World),Below w.heap.size w w'→IsK w' x a→IsK w' y b→Calls Tryz.prog F (#[x,y]++cap) w' fun e w''=>∃ v z,e=.returned (.tuple #[v,.int .i64 (φ a b).2])∧IsV w'' v z∧((φ a b).2=0→z=ct (φ a b).1)∧Below w'.heap.size w' w''
theorem oZ (F:FuncId) (cap:Array Value) (φ:CQ→CQ→CQ×Int) (s t:ByteArray) (w:World) (hG:Gw w) (hF:vK F cap φ w) :
  Calls Tryz.prog 59 #[.string s,.string t,.func (.func F) #[] cap] w fun e w'=>e=.returned (.tuple #[.string (bL φ s t).1,.int .i64 (bL φ s t).2])∧Below w.heap.size w w':=by
 have HF:=xo hF
 have EN:=hF.en
 clear hF
 go_enter Tryz.func59,Tryz.ntmps59
 go_wp2_with fail
 refine (gp s w hG).mono ?_
 rintro e w1 ⟨v,ok,rfl,hcase,hb1⟩
 rcases hcase with ⟨z,hz,rfl,hv⟩ | ⟨hz,rfl,rfl⟩
 ·obtain⟨p,rfl,hp1,hp2,-,-⟩:=fg hz
  have HP1:=xo hp1
  clear hz hp1
  obtain⟨_,_,_,_,_,_,rfl,hx0,hy0⟩:=id hv
  obtain⟨xm,xp,xl,xc,xq,xk,xd,hxe⟩:=hx0.form
  obtain⟨ym,yp,yl,yc,yq,yk,yd,hye⟩:=hy0.form
  obtain⟨rfl,rfl,rfl⟩:=cI hxe
  obtain⟨rfl,rfl,rfl⟩:=cI hye
  clear hxe hye hx0 hy0
  go_upto_region 2 with fail
  have q1:=aV.new w1 (.bool xm) (.slice xp xl xc) (.slice xq xk xd) (.bool ym) (.slice yp yl yc) (.slice yq yk yd) 83
  have m1:=ac w1 (.cells #[.bool xm,.slice xp xl xc,.slice xq xk xd,.bool ym,.slice yp yl yc,.slice yq yk yd] 83)
  generalize w1.alloc (.cells #[.bool xm,.slice xp xl xc,.slice xq xk xd,.bool ym,.slice yp yl yc,.slice yq yk yd] 83)=w2 at *
  have B1:=xo q1
  have HV:=xo (hv.below m1)
  have hb2:=hb1.trans (m1.mono hb1.size)
  clear q1 hv m1
  go_wp2_with fail
  refine (gp t w2 (hG.below hb2)).mono ?_
  rintro e w3 ⟨v2,ok2,rfl,hcase,hb3⟩
  have hB3:=hb2.trans (hb3.mono hb2.size)
  rcases hcase with ⟨z2,hz2,rfl,hv2⟩ | ⟨hz2,rfl,rfl⟩
  ·obtain⟨q,rfl,hr1,hr2,-,-⟩:=fg hz2
   have HP2:=xo hr1
   clear hz2 hr1
   obtain⟨_,_,_,_,_,_,rfl,hx0,hy0⟩:=id hv2
   obtain⟨xm',xp',xl',xc',xq',xk',xd',hxe⟩:=hx0.form
   obtain⟨ym',yp',yl',yc',yq',yk',yd',hye⟩:=hy0.form
   obtain⟨rfl,rfl,rfl⟩:=cI hxe
   obtain⟨rfl,rfl,rfl⟩:=cI hye
   clear hxe hye hx0 hy0
   go_upto_region 5 with fail
   have q2:=aV.new w3 (.bool xm') (.slice xp' xl' xc') (.slice xq' xk' xd') (.bool ym') (.slice yp' yl' yc') (.slice yq' yk' yd') 83
   have m2:=ac w3 (.cells #[.bool xm',.slice xp' xl' xc',.slice xq' xk' xd',.bool ym',.slice yp' yl' yc',.slice yq' yk' yd'] 83)
   generalize w3.alloc (.cells #[.bool xm',.slice xp' xl' xc',.slice xq' xk' xd',.bool ym',.slice yp' yl' yc',.slice yq' yk' yd'] 83)=w4 at *
   have hb4:=hb3.trans (m2.mono hb3.size)
   have hB4:=hb2.trans (hb4.mono hb2.size)
   have q1:=B1.out.below hb4
   have HC:=xo (HF.out.on _ _ p q w4 hB4 ⟨HV.out.below hb4,hp2.mono (by decide)⟩ ⟨hv2.below m2,hr2.mono (by decide)⟩)
   have a0:=q1.c0;have a1:=q1.c1;have a2:=q1.c2;have a3:=q1.c3;have a4:=q1.c4;have a5:=q1.c5
   have b0:=q2.c0;have b1:=q2.c1;have b2:=q2.c2;have b3:=q2.c3;have b4:=q2.c4;have b5:=q2.c5
   have HB4:=xo hB4
   clear q1 q2 m2 hv2 hb3 hb4 hB4 hB3 hb2 HF
   go_wp2_with fail
   refine HC.out.mono ?_
   rintro e w5 ⟨v3,z3,rfl,hv3,hz3,hb5⟩
   obtain⟨err,herr⟩:∃ n,n=(φ p q).2:=⟨_,rfl⟩
   rw[←herr]
   have hB5:=HB4.out.trans (hb5.mono HB4.out.size)
   obtain⟨_,_,_,_,_,_,rfl,hx0,hy0⟩:=id hv3
   obtain⟨um,up,ul,uc,uq,uk,ud,hxe⟩:=hx0.form
   obtain⟨vm,vp,vl,vc,vq,vk,vd,hye⟩:=hy0.form
   obtain⟨rfl,rfl,rfl⟩:=cI hxe
   obtain⟨rfl,rfl,rfl⟩:=cI hye
   clear hxe hye hx0 hy0 a0 a1 a2 a3 a4 a5 b0 b1 b2 b3 b4 b5 HC HV B1 HB4
   by_cases he:err=0
   ·have hbc:bL φ s t=ci (φ p q).1:=by unfold bL;rw[HP1.out,HP2.out];simp only;rw[if_pos (by rw[←herr];exact he)]
    have hz4:=hz3 (by rw[←herr];exact he)
    have HE:=xo hbc
    rw[hz4] at hv3
    clear hbc hz3 herr hz4
    subst he
    go_upto_region 8 with fail
    have q3:=aV.new w5 (.bool um) (.slice up ul uc) (.slice uq uk ud) (.bool vm) (.slice vp vl vc) (.slice vq vk vd) 83
    have m3:=ac w5 (.cells #[.bool um,.slice up ul uc,.slice uq uk ud,.bool vm,.slice vp vl vc,.slice vq vk vd] 83)
    generalize w5.alloc (.cells #[.bool um,.slice up ul uc,.slice uq uk ud,.bool vm,.slice vp vl vc,.slice vq vk vd] 83)=w6 at *
    have a0:=q3.c0;have a1:=q3.c1;have a2:=q3.c2;have a3:=q3.c3;have a4:=q3.c4;have a5:=q3.c5
    have HB6:=xo (hB5.trans (m3.mono hB5.size))
    have HG:=xo (hG.below HB6.out)
    have HV:=xo (hv3.below m3)
    clear q3 m3 hv3 hB5 hb5
    go_wp2_with fail
    refine (tr _ _ _ HV.out HG.out).mono ?_
    rintro e w7 ⟨rfl,hb7⟩
    go_wp2
    refine bodyPost_ret (v:=.tuple #[.string (ci (φ p q).1).1,.int .i64 (ci (φ p q).1).2]) (by simp[results,Tryz.results59,go_sem]) rfl ⟨by rw[HE.out],HB6.out.trans (hb7.mono HB6.out.size)⟩
   ·have hbc:bL φ s t=(⟨#[]⟩,err):=by unfold bL;rw[HP1.out,HP2.out];simp only;rw[if_neg (by rw[←herr];exact he),herr]
    have HE:=xo hbc
    have hne:(!(err == 0))=true:=by simpa using he
    clear hbc hz3 herr
    go_wp2
    refine bodyPost_ret (v:=.tuple #[.string ⟨#[]⟩,.int .i64 err]) (by simp[results,Tryz.results59,go_sem]) rfl ⟨by rw[HE.out],hB5.trans ((ac w5 _).mono hB5.size)⟩
  ·have e:bL φ s t=(⟨#[]⟩,10):=by unfold bL;rw[dR hz2,HP1.out]
   have HE:=xo e
   clear e hz2
   unfold eC
   go_wp2
   refine bodyPost_ret (v:=.tuple #[.string ⟨#[]⟩,.int .i64 10]) (by simp[results,Tryz.results59,go_sem]) rfl ⟨by rw[HE.out],hB3.trans ((ac w3 _).mono hB3.size)⟩
 ·have e:bL φ s t=(⟨#[]⟩,10):=by unfold bL;rw[dR hz]
  have HE:=xo e
  clear e hz
  unfold eC
  go_wp2
  refine bodyPost_ret (v:=.tuple #[.string ⟨#[]⟩,.int .i64 10]) (by simp[results,Tryz.results59,go_sem]) rfl ⟨by rw[HE.out],hb1.trans ((ac w1 _).mono hb1.size)⟩
end Go.Proofs.YtomkanblohhpfaaGreatDoor
