/- L -/
import Derived.Test.YtgakllaobooabaaGreatDoorXMach
import Derived.Test.YtgakllaobooabaaGreatDoorXNat
import Derived.Test.YtgakllaobooabaaGreatDoorXGet
import Derived.Test.YtgakllaobooabaaGreatDoorXNQ
import Derived.Test.YtgakllaobooabaaGreatDoorXCoef
import Derived.Test.YtgakllaobooabaaGreatDoorXB
set_option linter.all false
set_option maxRecDepth 100000
set_option maxHeartbeats 8000000
namespace Go.Proofs.YtgakllaobooabaaGreatDoor
open Go.RowKit
def qJ (l:List Nat):List Value:=l.map fun (d:Nat)=>Value.int .i64 (d:Int)
theorem vB (l:List Nat) (j:Nat) (h:j<l.length):(qJ l)[j]?=some (.int .i64 (nth l j)):=by simp[qJ,nth,h]
theorem vC (l:List Nat) (k d:Nat):qJ (l.set k d)=(qJ l).set k (.int .i64 d):=by simp[qJ,List.map_set]
def AtI (w:World) (p:Option Addr) (l:List Nat):Prop :=
 0<l.length->∃ b o,p=some ⟨b,o,none⟩/\b<w.heap.size/\∀ j,j<l.length->w.cell? ⟨b,o+j,none⟩=some (.int .i64 (nth l j))
def IsI (w:World) (v:Value) (l:List Nat):Prop:=∃ p cap,v=.slice p l.length cap/\l.length<=cap/\cap<=maxLen/\AtI w p l
theorem IsI.below {w w':World}{v:Value}{l:List Nat} (h:IsI w v l) (hb:Below w.heap.size w w'):IsI w' v l:=by
 obtain⟨p,cap,e,h1,h2,h3⟩:=h;refine⟨p,cap,e,h1,h2,fun hl=>?_⟩;obtain⟨b,o,e2,hlt,hc⟩:=h3 hl;exact⟨b,o,e2,AD hlt hb.size,fun j hj=>(hb.cell (p:=⟨b,o+j,none⟩) hlt).trans (hc j hj)⟩
abbrev uD (w:World) (base:Nat) (v:Value) (l:List Nat):Prop:=w.ownsRow base 3 1 v l.length (qJ l)
theorem uD.below {w w':World}{base:Nat}{v:Value}{l:List Nat} (h:uD w base v l) (hb:Below w.heap.size w w'):uD w' base v l:=by
 obtain⟨hlen,h⟩:=h;refine⟨hlen,?_⟩;rcases h with h | ⟨g,cap,cur,rfl,hg,hh,r⟩
 ·exact Or.inl h
 ·exact Or.inr ⟨g,cap,cur,rfl,hg,by rw[hb.block g (AE.1 hh).1];exact hh,r⟩
def iq (w:World) (g cap:Nat) (l:List Nat):Prop:=w.ownsRow g 3 1 (.slice (some ⟨g,0,none⟩) l.length cap) l.length (qJ l)
theorem iq.own {w:World}{g cap base:Nat}{l:List Nat} (h:iq w g cap l) (hb:base<=g):uD w base (.slice (some ⟨g,0,none⟩) l.length cap) l:=by
 obtain⟨h1,h2⟩:=h;refine⟨h1,?_⟩;rcases h2 with h2 | ⟨g',cap',cur,e,_,r⟩
 ·exact Or.inl h2
 ·have:g'=g:=by simp at e;exact e.1.symm
  subst this;exact Or.inr ⟨g',cap',cur,e,hb,r⟩
theorem iq.lt {w:World}{g cap:Nat}{l:List Nat} (h:iq w g cap l):g<w.heap.size:=(World.ownsRow.lt h g rfl).2
theorem iq.cell {w:World}{g cap:Nat}{l:List Nat} (h:iq w g cap l) {j:Nat} (hj:j<l.length):w.cell? ⟨g,j,none⟩=some (.int .i64 (nth l j)):=by
 rw[World.ownsRow.cellAt h j (by omega),vB l j hj]
theorem iq.set {w:World}{g cap:Nat}{l:List Nat} (h:iq w g cap l) (j d:Nat) (z:Int) (hz:z=d):iq (w.setCell ⟨g,j,none⟩ (.int .i64 z)) g cap (l.set j d):=by
 subst hz;have:=(World.ownsRow.stored h j (.int .i64 d)).1;unfold iq;rw[vC,BO];exact this
theorem iq.drewN {w:World}{g cap:Nat}{l:List Nat} (h:iq w g cap l) (n:Nat):iq (w.drewN n) g cap l:=h
theorem iq.below {w w':World}{g cap:Nat}{l:List Nat} (h:iq w g cap l) (hb:Below w.heap.size w w'):iq w' g cap l:=uD.below h hb
theorem AtI.below {w w':World}{p:Option Addr}{l:List Nat} (h:AtI w p l) {B:Nat} (hb:Below B w w') (hB:w.heap.size<=B):AtI w' p l:=by
 intro hl;obtain⟨b,o,e2,hlt,hc⟩:=h hl;exact⟨b,o,e2,AD hlt hb.size,fun j hj=>(hb.cell (p:=⟨b,o+j,none⟩) (by show b<B;omega)).trans (hc j hj)⟩
open Go.RowKit Dg
def RR:Nat:=10000
theorem uG:2<=RR:=by decide
open Dg
theorem cY (d:Nat) (l:List Nat):val RR (d :: l)=d+RR*val RR l:=rfl
def xG (n:Nat):Prop:=(ag RR n).length<100000
theorem xG.mono {m n:Nat} (h:xG n) (hm:m<=n):xG m:=by
 unfold xG at *
 have h1:=bK uG n;have:=bh uG (n:=m) (k:=(ag RR n).length) (by omega);omega
open Dg Dc
/-! ### reading -/
/-- how many digits a text begins with, m at most -/
def lL:List UInt8->Nat->Nat
 | [],_=>0
 | _ :: _,0=>0
 | c :: s,m+1=>if bj c then lL s m+1 else 0
def kh (s:List UInt8):Nat×List UInt8:=(aJ (s.take (lL s 2001)),s.drop (lL s 2001))
def jq (s:List UInt8):Rt×List UInt8 :=
 if lL s 2001=0 then (⟨false,1,1⟩,s)
 else if (kh s).2.head?=some 47/\(kh ((kh s).2.drop 1)).1≠0 then (cT false (kh s).1 (kh ((kh s).2.drop 1)).1,(kh ((kh s).2.drop 1)).2)
 else (⟨false,(kh s).1,1⟩,(kh s).2)
def yr (r:Rt):Rt:=⟨!r.minus&&decide (r.n≠0),r.n,r.d⟩
def gp (s:List UInt8):Rt×List UInt8 :=
 if s.head?=some 45 then (yr (jq (s.drop 1)).1,(jq (s.drop 1)).2)
 else if s.head?=some 43 then jq (s.drop 1) else jq s
def lq:Rt:=⟨false,0,1⟩
def iF (s:List UInt8):Vl :=
 if (gp s).2=[105] then ⟨lq,(gp s).1⟩
 else if (gp s).2=[] then ⟨(gp s).1,lq⟩
 else ⟨(gp s).1,(gp (gp s).2).1⟩
def rOK (s:List UInt8):Bool:=decide (cr (iF s)=s)&&!(cO (iF s).x||cO (iF s).y)
def wH (s:List UInt8):Bool:=rOK s&&decide ((iF s).y.n=0)
def rh (r:Rt):Bool:=decide (r.n<=4096)&&decide (r.d<=4096)
structure fq (r:Rt):Prop where
 pos:0<r.d
 gcd:Nat.gcd r.n r.d=1
 sign:r.minus=true->r.n≠0
theorem kL {mi:Bool}{n d:Nat} (h:0<d):fq (cT mi n d):=by
 unfold cT
 split
 ·exact⟨by decide,by decide,fun h=>by cases h⟩
 ·rename_i hn
  have hg:0<Nat.gcd n d:=Ci _ h;refine⟨Dq (Di _ h) hg,?_,fun _=>?_⟩
  ·rw[Nat.gcd_div (Dh ..) (Nat.gcd_dvd_right ..),Nat.div_self hg]
  have:0<n / Nat.gcd n d:=Dq (Nat.le_of_dvd (by omega) (Dh ..)) hg
  show n / Nat.gcd n d≠0
  omega
theorem kK (n:Nat):fq ⟨false,n,1⟩:=⟨Nat.one_pos,Nat.gcd_one_right n,fun h=>by cases h⟩
theorem uR {r:Rt} (h:fq r):fq (yr r):=⟨h.pos,h.gcd,fun hm=>by unfold yr at hm;simp at hm;exact hm.2⟩
theorem l3 (s:List UInt8):fq (jq s).1:=by
 unfold jq
 split
 ·exact kK 1
 ·split
  ·rename_i h;exact kL (by have:=h.2;omega)
  ·exact kK _
theorem g_ (s:List UInt8):fq (gp s).1:=by
 unfold gp
 split
 ·exact uR (l3 _)
 ·split<;>exact l3 _
theorem l4:fq lq:=kK 0
theorem sW (s:List UInt8):fq (iF s).x/\fq (iF s).y:=by
 unfold iF
 split
 ·exact⟨l4,g_ _⟩
 ·split
  ·exact⟨g_ _,l4⟩
  ·exact⟨g_ _,g_ _⟩
theorem dT {s:List UInt8}{r:Rt} (h:bH s=some r):fq r:=by
 unfold bH at h
 split at h
 ·cases h
 ·split at h
  ·split at h
   ·cases h
   ·split at h
    ·cases h
    ·rename_i h0;injection h with h;subst h;exact kL (by omega)
  ·injection h with h;subst h;exact kL (by decide)
theorem kz {r:Rt} (h:fq r):cT r.minus r.n r.d=r:=by
 obtain⟨m,n,d⟩:=r;have h1:=h.pos;have h2:=h.gcd;have h3:=h.sign;simp only at h1 h2 h3 |-;unfold cT;rw[h2,Dp,Dp]
 split
 ·rename_i h0
  subst h0;rw[Nat.gcd_zero_left] at h2
  cases m
  ·rw[h2]
  ·exact absurd rfl (h3 rfl)
 ·rfl
/-! ### texts of digits -/
theorem oA (n:Nat):∃ c r,dec n=c :: r/\bj c=true:=by
 cases h:dec n with
 | nil=>exact absurd h (eJ n)
 | cons c r =>
  have:=c_ n;rw[h,CP,AV] at this;exact⟨c,r,rfl,this.1⟩
theorem gJ {c:UInt8} (h:bj c=true):c≠43/\c≠45/\c≠47/\c≠105:=by
 unfold bj at h;simp only[AV,decide_eq_true_eq] at h;refine⟨?_,?_,?_,?_⟩<;>(intro e;subst e;revert h;decide)
theorem om:∀ (l t:List UInt8) (m:Nat),l.all bj=true->l.length<=m->(∀ c,t.head?=some c->bj c=false)->lL (l++t) m=l.length
 | [],[],m,_,_,_=>by simp[lL]
 | [],c :: t,0,_,_,_=>by simp[lL]
 | [],c :: t,m+1,_,_,h=>by
  have:=h c rfl;simp[lL,this]
 | c :: l,t,0,_,h,_=>by simp at h
 | c :: l,t,m+1,ha,hl,h=>by
  rw[CP,AV] at ha;rw[A9,lL,if_pos ha.1,om l t m ha.2 (by simpa using hl) h];rfl
theorem lp {n:Nat}{t:List UInt8} (hl:(dec n).length<=2001) (h:∀ c,t.head?=some c->bj c=false):kh (dec n++t)=(n,t)/\lL (dec n++t) 2001=(dec n).length:=by
 have e:=om (dec n) t 2001 (c_ n) hl h;refine⟨?_,e⟩;unfold kh;rw[e,CY,List.drop_left',iK]<;>rfl
def dS (r:Rt):List UInt8:=dec r.n++(if 1<r.d then 47 :: dec r.d else [])
theorem eF (r:Rt):aG r=(if r.minus then [45] else [])++dS r:=by unfold aG dS;rw[Bl]
theorem kI {r:Rt} (h:cO r=false):(dec r.n).length<=2000/\(dec r.d).length<=2000:=by
 unfold cO at h;simp only[BX,decide_eq_false_iff_not] at h;omega
theorem iX (r:Rt):∃ c t,dS r=c :: t/\bj c=true:=by
 obtain⟨c,t,h1,h2⟩:=oA r.n;exact⟨c,t++_,by unfold dS;rw[h1];rfl,h2⟩
theorem tW {r:Rt} (h:fq r) (hb:cO r=false):jq (dS r)=(⟨false,r.n,r.d⟩,[]):=by
 obtain⟨h1,h2⟩:=kI hb;have hp:=eI r.n;have hpos:=h.pos;unfold dS
 split
 ·rename_i hd
  obtain⟨e1,e2⟩:=lp (n:=r.n) (t:=47 :: dec r.d) (by omega) (fun c hc=>by simp at hc;subst hc;decide);obtain⟨e3,_⟩:=lp (n:=r.d) (t:=[]) (by omega) (fun c hc=>by cases hc);rw[BE] at e3;unfold jq;rw[e2,if_neg (by omega),e1];simp only[Dn,List.drop_one,List.tail_cons];rw[e3,if_pos ⟨by simp,by show r.d≠0;omega⟩];have:=kz (r:=⟨false,r.n,r.d⟩) ⟨h.pos,h.gcd,fun h=>by cases h⟩;rw[this]
 ·rename_i hd
  obtain⟨e1,e2⟩:=lp (n:=r.n) (t:=[]) (by omega) (fun c hc=>by cases hc);rw[show r.d=1 by omega];unfold jq;rw[e2,if_neg (by omega),e1];rfl
theorem qY {r:Rt} (h:fq r) (hb:cO r=false):gp (aG r)=(r,[]):=by
 rw[eF];have hp:=tW h hb;obtain⟨c,t,e1,e2⟩:=iX r;obtain⟨m,n,d⟩:=r
 cases m
 ·simp only[AU,if_false,A1];obtain⟨n1,n2,_⟩:=gJ e2;unfold gp;rw[e1] at hp |-;simp only[Dn,Option.some.injEq];rw[if_neg n2,if_neg n1];exact hp
 ·simp only[if_true];have hs:=h.sign rfl;simp only at hs;unfold gp;simp only[A9,A1,Dn,if_true,List.drop_one,List.tail_cons];rw[hp];unfold yr;simp[hs]
theorem qX {r:Rt} (h:fq r) (hb:cO r=false):iF (aG r)=⟨r,lq⟩:=by
 unfold iF;rw[qY h hb];simp
theorem bY {z:Vl} (h:z.y.n=0):cr z=aG z.x:=by unfold cr;rw[if_pos h]
/-! ### the program's reading of such a text -/
theorem lN {l:List UInt8}{c d:UInt8} (h:c≠d):Lib.hasSuffix (l++[c]) [d]=false:=by
 unfold Lib.hasSuffix;rw[Bk];intro he;rw[C9] at he;obtain⟨t,ht⟩:=he;have:=List.append_inj_right' ht rfl;simp at this;exact h this.symm
theorem oB (n:Nat):∃ l c,dec n=l++[c]/\bj c=true:=by
 have hne:=eJ n;have:=C6 hne;exact⟨_,_,this.symm,A5.1 (c_ n) _ (List.getLast_mem hne)⟩
theorem uf (r:Rt):∃ l c,aG r=l++[c]/\bj c=true:=by
 rw[eF];unfold dS;by_cases hd:1<r.d
 all_goals first | rw[if_pos hd] | rw[if_neg hd]
 ·obtain⟨l,c,h1,h2⟩:=oB r.d;exact⟨(if r.minus then [45] else [])++(dec r.n++47 :: l),c,by rw[h1];simp only[Bl,A9],h2⟩
 ·obtain⟨l,c,h1,h2⟩:=oB r.n;exact⟨(if r.minus then [45] else [])++l,c,by rw[h1];simp only[Bl,BE],h2⟩
theorem qU (r:Rt):dZ (aG r)=(aG r,[48]):=by
 obtain⟨l,c,h1,h2⟩:=uf r;have:Lib.hasSuffix (aG r) [105]=false:=by rw[h1];exact lN (gJ h2).2.2.2
 unfold dZ;rw[this];rfl
theorem f_ (c d:UInt8) (l:List UInt8):Lib.hasPrefix (c :: l) [d]=decide (c=d):=by
 unfold Lib.hasPrefix;rw[Bool.eq_iff_iff,C8];simp[List.cons_prefix_cons,eq_comm]
theorem mU (r:Rt):Lib.trimPrefix (aG r) [45]=dS r/\Lib.hasPrefix (aG r) [45]=r.minus:=by
 rw[eF];obtain⟨c,t,e1,e2⟩:=iX r;unfold Lib.trimPrefix
 cases r.minus
 ·simp only[AU,if_false,A1];rw[e1,f_,decide_eq_false (gJ e2).2.1];exact⟨rfl,rfl⟩
 ·simp only[if_true,A9,A1];rw[f_,decide_eq_true rfl];exact⟨rfl,rfl⟩
theorem nz {s:List UInt8}{d:UInt8}{i:Nat}:Lib.occAt s [d] i=true↔s[i]?=some d:=by
 unfold Lib.occAt;rw[C8];constructor
 ·rintro⟨t,ht⟩;have:(s.drop i)[0]?=some d:=by rw[<-ht];rfl
  rw[Cn] at this;simpa using this
 ·intro h;obtain⟨hi,e⟩:=Bv.1 h;exact⟨s.drop (i+1),by rw[Bi hi,e];rfl⟩
theorem iO {s:List UInt8}{d:UInt8} (h:d∉s):Lib.index s [d]=-1:=by
 refine Lib.index_none (fun j _=>?_);rw[Bk];intro he;exact h (Cd (nz.1 he))
theorem mj {l t:List UInt8}{d:UInt8} (h:d∉l):Lib.index (l++d :: t) [d]=l.length:=by
 refine Lib.index_first (by simp) (nz.2 (by simp)) (fun j hj=>?_);rw[Bk];intro he;have:=nz.1 he;rw[BU hj] at this;exact h (Cd this)
theorem gO {l:List UInt8} (h:l.all bj=true):(47:UInt8)∉l:=fun hm=>(gJ (A5.1 h _ hm)).2.2.1 rfl
theorem gM (n:Nat):bB (dec n)=some n:=by
 unfold bB;rw[if_pos ⟨eJ n,c_ n⟩,iK]
theorem gR {r:Rt} (h:fq r):bH (aG r)=some r:=by
 obtain⟨e1,e2⟩:=mU r;have hpos:=h.pos;unfold bH;rw[e1,e2];unfold dS Lib.cut;by_cases hd:1<r.d
 all_goals first | rw[if_pos hd] | rw[if_neg hd]
 ·rw[mj (gO (c_ r.n)),if_pos (by omega)];simp only[Db];rw[CY rfl,gM];simp only[if_true];have:(dec r.n++47 :: dec r.d).drop ((dec r.n).length+([47]:List UInt8).length)=dec r.d:=by simp[List.drop_append]
  rw[this,gM];simp only;rw[if_neg (by omega),kz h]
 ·rw[BE,iO (gO (c_ r.n)),if_neg (by omega)];simp only;rw[gM];simp only[AU,if_false];have hd1:r.d=1:=by omega
  have:=kz h;rw[hd1] at this;rw[this]
theorem lB {r:Rt} (hb:cO r=false):(aG r).length<=4002:=by
 obtain⟨h1,h2⟩:=kI hb;rw[eF];unfold dS;rw[AO,AO]
 split<;>split<;>simp<;>omega
theorem oO {r:Rt} (h:fq r) (hb:cO r=false):eM (aG r)=some ⟨r,lq⟩:=by
 have hl:=lB hb;unfold eM;rw[if_neg (by omega),qU,gR h];simp only;rw[j0];simp only;rw[if_pos ⟨bY rfl,hb,il⟩];rfl
theorem wJ (s:List UInt8):(fL s=true↔∃ r,fq r/\cO r=false/\s=aG r)/\(wH s=true↔∃ r,fq r/\cO r=false/\s=aG r):=by
 refine⟨⟨fun h=>?_,?_⟩,⟨fun h=>?_,?_⟩⟩
 ·unfold fL at h
  cases hg:eM s with
  | none=>rw[hg] at h;cases h
  | some z =>
   rw[hg] at h;have hy:=of_decide_eq_true h;unfold eM at hg
   split at hg
   ·cases hg
   ·split at hg
    ·rename_i p q hp hq
     split at hg
     ·rename_i hc
      injection hg with hg
      subst hg;refine⟨p,dT hp,hc.2.1,?_⟩;rw[<-hc.1];exact bY hy
     ·cases hg
    ·cases hg
 ·rintro⟨r,h1,h2,rfl⟩;unfold fL;rw[oO h1 h2];rfl
 ·unfold wH rOK at h;simp only[AV,decide_eq_true_eq,Bool.not_eq_true',BX] at h;exact⟨(iF s).x,(sW s).1,h.1.2.1,by rw[<-bY h.2];exact h.1.1.symm⟩
 ·rintro⟨r,h1,h2,rfl⟩;unfold wH rOK;rw[qX h1 h2,bY rfl];simp[h2,il,show cO lq=false from il,show lq.n=0 from rfl]
/-! ### short parts -/
theorem oz (c:UInt8) (l:List UInt8):aJ (c :: l)=(c.toNat-48)*10 ^ l.length+aJ l:=by
 have:=dL [c] l;rw[Cx] at this;rw[this];simp[aJ]
theorem li:∀ (l:List UInt8) (acc:Nat),l.all bj=true->acc<18446744073709551616 ->
  Lib.parseUint10 acc l=if acc*10 ^ l.length+aJ l<18446744073709551616 then .ok (acc*10 ^ l.length+aJ l) else .range
 | [],acc,_,h=>by simp[Lib.parseUint10,aJ,h]
 | c :: l,acc,ha,h=>by
  rw[CP,AV] at ha;have hc:48<=c.toNat/\c.toNat<=57:=by have:=ha.1;unfold bj at this;simpa using this
  have e:acc*10 ^ (c :: l).length+aJ (c :: l)=(acc*10+(c.toNat-48))*10 ^ l.length+aJ l:=by
   rw[oz,A2,AS];grind
  have hpow:0<10 ^ l.length:=Bh (by decide);have hge:acc*10+(c.toNat-48)<=(acc*10+(c.toNat-48))*10 ^ l.length:=Nat.le_mul_of_pos_right _ hpow;rw[Lib.parseUint10,if_pos hc,e]
  split
  ·rw[if_neg (by omega)]
  ·split
   ·rw[if_neg (by omega)]
   ·exact li l _ ha.2 (by omega)
theorem pC (n:Nat):fH (dec n)=decide (n<=4096):=by
 obtain⟨c,t,e1,e2⟩:=oA n;have hc:48<=c.toNat/\c.toNat<=57:=by have:=e2;unfold bj at this;simpa using this
 have hp:=li (dec n) 0 (c_ n) (by decide);rw[iK,BR,Bp] at hp;unfold fH Lib.atoiAll;rw[e1];simp only;rw[if_neg (by omega),<-e1];unfold Lib.parseMag;rw[if_neg (eJ n),hp];by_cases h1:n<18446744073709551616
 ·rw[if_pos h1];simp only;have hn:¬ c.toNat=45:=by omega
  by_cases h2:9223372036854775808<=n
  ·simp[hn,h2];omega
  ·simp[hn,h2];omega
 ·rw[if_neg h1];simp;omega
theorem t8 (r:Rt) (h:0<r.d):(dF ⟨(dS r).toArray⟩).all (fun p=>fH p.data.toList)=rh r:=by
 have e:(dF ⟨(dS r).toArray⟩).all (fun p=>fH p.data.toList)=(Lib.splitK [47] 0 (Lib.count (dS r) [47]) (dS r)).all fH:=by
  have:=Lib.splitB_data ⟨#[47]⟩ 0 (Lib.countB ⟨(dS r).toArray⟩ ⟨#[47]⟩) ⟨(dS r).toArray⟩;have e2:Lib.countB ⟨(dS r).toArray⟩ ⟨#[47]⟩=Lib.count (dS r) [47]:=by unfold Lib.countB;simp
  rw[e2] at this;unfold dF;rw[e2];simp only[C5] at this;rw[<-this,List.all_map];rfl
 rw[e];unfold dS rh
 split
 ·have h1:=mj (t:=dec r.d) (gO (c_ r.n));have h2:=iO (gO (c_ r.d));have e3:(dec r.n++47 :: dec r.d).drop ((dec r.n).length+([47]:List UInt8).length)=dec r.d:=by simp[List.drop_append]
  rw[Lib.count_hit (by simp) h1,e3,Lib.count_miss h2]
  show (Lib.splitK [47] 0 (0+1) _).all fH=_
  rw[Lib.splitK,if_neg (by rw[h1];simp),h1];simp only[Db,Bb];rw[e3,CY rfl];simp[Lib.splitK,pC]
 ·rw[BE,Lib.count_miss (iO (gO (c_ r.n)))];simp only[Lib.splitK,CP,List.all_nil,Bool.and_true,pC];rw[show r.d=1 by omega];simp
open Go.RowKit Dg Dc
def toQ (r:Rt):Rat:=mkRat (sgz r.minus r.n) r.d
theorem wR {r:Rt} (h:fq r):rt (toQ r)=r:=by unfold toQ;rw[<-ky _ _ _ h.pos,kz h]
theorem rz (q:Rat):toQ (rt q)=q:=by
 unfold toQ;rw[lx];exact Rat.mkRat_self q
theorem kr (q:Rat):fq (rt q):=⟨q.den_pos,q.reduced,fun h=>by
 unfold rt at h |-;simp only[decide_eq_true_eq] at h |-
 omega⟩
def cV (z:CQ):Bool:=cO (rt z.re)||cO (rt z.im)
def txt (z:CQ):ByteArray:=⟨(cr (ct z)).toArray⟩
def dX (s:ByteArray):Option CQ:=(eM s.data.toList).map fun z=>⟨toQ z.x,toQ z.y⟩
def b8 (z:CQ):ByteArray×Int:=if cV z=true then (⟨#[]⟩,11) else (txt z,0)
theorem fT {s:ByteArray}{l:List UInt8} (h:s.data.toList=l):s=⟨l.toArray⟩:=by
 obtain⟨⟨d⟩⟩:=s;simp only at h;rw[h]
theorem uO {r:Rt} (hb:cO r=false) (hp:0<r.d):Sz 2000 r:=by
 obtain⟨h1,h2⟩:=kI hb;refine⟨?_,hp,?_⟩
 ·exact Dk fun h=>by have:=fg h;omega
 ·exact Dk fun h=>by have:=fg h;omega
theorem fX {s:ByteArray}{z:Vl} (h:eM s.data.toList=some z):∃ q,z=ct q/\dX s=some q/\SzV 2000 (ct q)/\cV q=false/\txt q=s:=by
 have h':=h;unfold eM at h
 split at h
 ·cases h
 ·split at h
  ·rename_i p q hp hq
   split at h
   ·rename_i hc
    injection h with h
    subst h;have e1:=wR (dT hp);have e2:=wR (dT hq);have e:(⟨p,q⟩:Vl)=ct ⟨toQ p,toQ q⟩:=by unfold ct;rw[e1,e2]
    refine⟨⟨toQ p,toQ q⟩,e,by unfold dX;rw[h'];rfl,?_,?_,?_⟩
    ·rw[<-e];exact⟨uO hc.2.1 (dT hp).pos,uO hc.2.2 (dT hq).pos⟩
    ·unfold cV;simp only;rw[e1,e2,hc.2.1,hc.2.2];rfl
    ·unfold txt;rw[<-e,hc.1]
   ·cases h
  ·cases h
theorem eA {s:ByteArray} (h:eM s.data.toList=none):dX s=none:=by unfold dX;rw[h];rfl
theorem me {q:Rat} (h:cV (CQ.real q)=false):dX (txt (CQ.real q))=some (CQ.real q):=by
 have h1:cO (rt q)=false:=by unfold cV CQ.real at h;simp only[BX] at h;exact h.1
 have e:cr (ct (CQ.real q))=aG (rt q):=bY (z:=ct (CQ.real q)) (by show (rt 0).n=0;rw[dQ]);unfold dX txt;simp only[C5];rw[e,oO (kr q) h1];simp only[C3,rz];congr 1
theorem oN {s:ByteArray}{z:CQ} (h:dX s=some z):cV z=false/\txt z=s/\SzV 2000 (ct z):=by
 cases hg:eM s.data.toList with
 | none=>rw[eA hg] at h;cases h
 | some y =>
  obtain⟨q,-,h1,h2,h3,h4⟩:=fX hg;rw[h1] at h
  injection h with h
  subst h;exact⟨h3,h4,h2⟩
def bM (φ:CQ->CQ->CQ×Int) (s t:ByteArray):ByteArray×Int :=
 match dX s,dX t with
 | some a,some b=>if (φ a b).2=0 then b8 (φ a b).1 else (⟨#[]⟩,(φ a b).2)
 | _,_=>(⟨#[]⟩,10)
def eh (f:CQ->CQ->CQ) (a b:CQ):CQ×Int:=(f a b,0)
def oG (a b:CQ):CQ×Int:=if b=⟨0,0⟩ then (⟨0,0⟩,12) else (a.div b,0)
def eX (s t:ByteArray):ByteArray:=(bM (eh CQ.add) s t).1
def fj (s t:ByteArray):ByteArray:=(bM (eh CQ.sub) s t).1
def cw (s t:ByteArray):ByteArray:=(bM (eh CQ.mul) s t).1
def bE (s t:ByteArray):ByteArray:=(bM oG s t).1
theorem xC (va:Value) (u:Vl) (w:World) (ha:IsV w va u) :
  Calls Tryz.prog 77 #[va] w fun e w'=>e=.returned (.bool (decide (u.x.n=0/\u.y.n=0)))/\Below w.heap.size w w':=by
 obtain⟨a,b,c,d,e,f,rfl,hx,hy⟩:=ha;have hb0:=ac w (.cells #[a,b,c,d,e,f] 65);have HB:=At hb0;have H1:=At (eW _ _ _ (hx.below hb0));have H2:=At (fun wx (hw:Below (w.alloc (.cells #[a,b,c,d,e,f] 65)).heap.size (w.alloc (.cells #[a,b,c,d,e,f] 65)) wx)=>eW _ _ _ ((hy.below hb0).below hw));have q1:=aW.new w a b c d e f 65;clear hb0;go_enter Tryz.func77,Tryz.ntmps77;go_upto_region 1 with fail
 generalize w.alloc (.cells #[a,b,c,d,e,f] 65)=w1 at *
 have a0:=q1.c0;have a1:=q1.c1;have a2:=q1.c2;have a3:=q1.c3;have a4:=q1.c4;have a5:=q1.c5;by_cases h:u.x.n=0
 ·rw[decide_eq_true h] at H1;go_wp2_with fail
  refine H1.out.mono ?_;rintro e w2 ⟨rfl,hb2⟩;have q2:=q1.below hb2;have c0:=q2.c0;have c1:=q2.c1;have c2:=q2.c2;have c3:=q2.c3;have c4:=q2.c4;have c5:=q2.c5;clear a0 a1 a2 a3 a4 a5;go_wp2_with fail
  refine (H2.out w2 hb2).mono ?_;rintro e w3 ⟨rfl,hb3⟩;go_wp2;go_ret;exact⟨by simp[h],HB.out.trans ((hb2.trans (hb3.mono hb2.size)).mono HB.out.size)⟩
 ·rw[decide_eq_false h] at H1;go_wp2_with fail
  refine H1.out.mono ?_;rintro e w2 ⟨rfl,hb2⟩;go_wp2;go_ret;exact⟨by simp[h],HB.out.trans (hb2.mono HB.out.size)⟩
theorem tU (va:Value) (z:CQ) (w:World) (ha:IsV w va (ct z)) (hG:Gw w) :
  Calls Tryz.prog 32 #[va] w fun e w'=>e=.returned (.tuple #[.string (b8 z).1,.int .i64 (b8 z).2])/\Below w.heap.size w w':=by
 have ha0:=ha;obtain⟨a,b,c,d,e,f,rfl,hx,hy⟩:=ha;have hb0:=ac w (.cells #[a,b,c,d,e,f] 65);have HB:=At hb0;have H1:=At (m_ _ _ _ (hx.below hb0) (hG.below hb0));have H2:=At (fun wx (hw:Below (w.alloc (.cells #[a,b,c,d,e,f] 65)).heap.size (w.alloc (.cells #[a,b,c,d,e,f] 65)) wx)=>m_ _ _ _ ((hy.below hb0).below hw) ((hG.below hb0).below hw));have H3:=At (fun wx (hw:Below (w.alloc (.cells #[a,b,c,d,e,f] 65)).heap.size (w.alloc (.cells #[a,b,c,d,e,f] 65)) wx)=>mW _ _ _ ((ha0.below hb0).below hw) (dl _) (dl _) ((hG.below hb0).below hw));have q1:=aW.new w a b c d e f 65;clear hb0 ha0 hx hy;go_enter Tryz.func32,Tryz.ntmps32;go_upto_region 1 with fail
 generalize w.alloc (.cells #[a,b,c,d,e,f] 65)=w1 at *
 have a0:=q1.c0;have a1:=q1.c1;have a2:=q1.c2;have a3:=q1.c3;have a4:=q1.c4;have a5:=q1.c5;by_cases h:cO (rt z.re)=true
 ·rw[show cO (ct z).x=true from h] at H1;go_wp2_with fail
  refine H1.out.mono ?_;rintro e w2 ⟨rfl,hb2⟩;have hp:b8 z=(⟨#[]⟩,11):=by unfold b8 cV;rw[h];rfl
  go_wp2;refine Du (v:=.tuple #[.string ⟨#[]⟩,.int .i64 11]) (by simp[results,Tryz.results32,go_sem]) rfl ⟨by rw[hp],HB.out.trans (hb2.mono HB.out.size)⟩
 ·rw[show cO (ct z).x=false from Bk.2 h] at H1;go_wp2_with fail
  refine H1.out.mono ?_;rintro e w2 ⟨rfl,hb2⟩;have q2:=q1.below hb2;have c0:=q2.c0;have c1:=q2.c1;have c2:=q2.c2;have c3:=q2.c3;have c4:=q2.c4;have c5:=q2.c5;clear a0 a1 a2 a3 a4 a5;have H2:=At (H2.out w2 hb2);by_cases h2:cO (rt z.im)=true
  ·rw[show cO (ct z).y=true from h2] at H2;go_wp2_with fail
   refine H2.out.mono ?_;rintro e w3 ⟨rfl,hb3⟩;have hp:b8 z=(⟨#[]⟩,11):=by unfold b8 cV;rw[h2];simp
   go_wp2;refine Du (v:=.tuple #[.string ⟨#[]⟩,.int .i64 11]) (by simp[results,Tryz.results32,go_sem]) rfl ⟨by rw[hp],HB.out.trans ((hb2.trans (hb3.mono hb2.size)).mono HB.out.size)⟩
  ·rw[show cO (ct z).y=false from Bk.2 h2] at H2;go_wp2_with fail
   refine H2.out.mono ?_;rintro e w3 ⟨rfl,hb3⟩;have hB3:=hb2.trans (hb3.mono hb2.size);have q3:=q1.below hB3;have d0:=q3.c0;have d1:=q3.c1;have d2:=q3.c2;have d3:=q3.c3;have d4:=q3.c4;have d5:=q3.c5;clear c0 c1 c2 c3 c4 c5;have hp:b8 z=(txt z,0):=by unfold b8 cV;rw[if_neg (by simpa using ⟨by simpa using h,by simpa using h2⟩)]
   have HP:=At hp;clear hp;go_wp2_with fail
   refine (H3.out w3 hB3).mono ?_;rintro e w4 ⟨t,rfl,ht,-,hb4⟩;go_wp2;refine Du (v:=.tuple #[.string t,.int .i64 0]) (by simp[results,Tryz.results32,go_sem]) rfl ⟨?_,HB.out.trans ((hB3.trans (hb4.mono hB3.size)).mono HB.out.size)⟩;rw[HP.out];have:t=txt z:=fT ht.out;rw[this]
theorem cH {a b c a' b' c':Value} (h:Value.agg #[a,b,c]=.agg #[a',b',c']):a=a'/\b=b'/\c=c':=by simpa using h
structure sP (F:FuncId) (cap:Array Value) (φ:CQ->CQ->CQ×Int) (w:World):Prop where
 en:∀ (args:Array Value) (w:World),(callFunc F args).run Tryz.prog w=.ok (.enter F args) w
 on:∀ (x y:Value) (a b:CQ) (w':World),Below w.heap.size w w'->IsK w' x a->IsK w' y b->Calls Tryz.prog F (#[x,y]++cap) w' fun e w''=>∃ v z,e=.returned (.tuple #[v,.int .i64 (φ a b).2])/\IsV w'' v z/\((φ a b).2=0->z=ct (φ a b).1)/\Below w'.heap.size w' w''
theorem sP.below {F:FuncId}{cap:Array Value}{φ:CQ->CQ->CQ×Int}{w w':World} (h:sP F cap φ w) (hb:Below w.heap.size w w'):sP F cap φ w' :=
 ⟨h.en,fun x y a b w'' hb'=>h.on x y a b w'' (hb.trans (hb'.mono hb.size))⟩
theorem rK (F:FuncId) (cap:Array Value) (φ:CQ->CQ->CQ×Int) (s t:ByteArray) (w:World) (hG:Gw w) (hF:sP F cap φ w) :
  Calls Tryz.prog 74 #[.string s,.string t,.func (.func F) #[] cap] w fun e w'=>e=.returned (.tuple #[.string (bM φ s t).1,.int .i64 (bM φ s t).2])/\Below w.heap.size w w':=by
 have HF:=At hF;have EN:=hF.en;clear hF;go_enter Tryz.func74,Tryz.ntmps74;go_wp2_with fail
 refine (ib s w hG).mono ?_;rintro e w1 ⟨v,ok,rfl,hcase,hb1⟩;rcases hcase with ⟨z,hz,rfl,hv⟩ | ⟨hz,rfl,rfl⟩
 ·obtain⟨p,rfl,hp1,hp2,-,-⟩:=fX hz;have HP1:=At hp1;clear hz hp1;obtain⟨_,_,_,_,_,_,rfl,hx0,hy0⟩:=id hv;obtain⟨xm,xp,xl,xc,xq,xk,xd,hxe⟩:=hx0.form;obtain⟨ym,yp,yl,yc,yq,yk,yd,hye⟩:=hy0.form;obtain⟨rfl,rfl,rfl⟩:=cH hxe;obtain⟨rfl,rfl,rfl⟩:=cH hye;clear hxe hye hx0 hy0;go_upto_region 2 with fail
  have q1:=aW.new w1 (.bool xm) (.slice xp xl xc) (.slice xq xk xd) (.bool ym) (.slice yp yl yc) (.slice yq yk yd) 65;have m1:=ac w1 (.cells #[.bool xm,.slice xp xl xc,.slice xq xk xd,.bool ym,.slice yp yl yc,.slice yq yk yd] 65);generalize w1.alloc (.cells #[.bool xm,.slice xp xl xc,.slice xq xk xd,.bool ym,.slice yp yl yc,.slice yq yk yd] 65)=w2 at *
  have B1:=At q1;have HV:=At (hv.below m1);have hb2:=hb1.trans (m1.mono hb1.size);clear q1 hv m1;go_wp2_with fail
  refine (ib t w2 (hG.below hb2)).mono ?_;rintro e w3 ⟨v2,ok2,rfl,hcase,hb3⟩;have hB3:=hb2.trans (hb3.mono hb2.size);rcases hcase with ⟨z2,hz2,rfl,hv2⟩ | ⟨hz2,rfl,rfl⟩
  ·obtain⟨q,rfl,hr1,hr2,-,-⟩:=fX hz2;have HP2:=At hr1;clear hz2 hr1;obtain⟨_,_,_,_,_,_,rfl,hx0,hy0⟩:=id hv2;obtain⟨xm',xp',xl',xc',xq',xk',xd',hxe⟩:=hx0.form;obtain⟨ym',yp',yl',yc',yq',yk',yd',hye⟩:=hy0.form;obtain⟨rfl,rfl,rfl⟩:=cH hxe;obtain⟨rfl,rfl,rfl⟩:=cH hye;clear hxe hye hx0 hy0;go_upto_region 5 with fail
   have q2:=aW.new w3 (.bool xm') (.slice xp' xl' xc') (.slice xq' xk' xd') (.bool ym') (.slice yp' yl' yc') (.slice yq' yk' yd') 65;have m2:=ac w3 (.cells #[.bool xm',.slice xp' xl' xc',.slice xq' xk' xd',.bool ym',.slice yp' yl' yc',.slice yq' yk' yd'] 65);generalize w3.alloc (.cells #[.bool xm',.slice xp' xl' xc',.slice xq' xk' xd',.bool ym',.slice yp' yl' yc',.slice yq' yk' yd'] 65)=w4 at *
   have hb4:=hb3.trans (m2.mono hb3.size);have hB4:=hb2.trans (hb4.mono hb2.size);have q1:=B1.out.below hb4;have HC:=At (HF.out.on _ _ p q w4 hB4 ⟨HV.out.below hb4,hp2.mono (by decide)⟩ ⟨hv2.below m2,hr2.mono (by decide)⟩);have a0:=q1.c0;have a1:=q1.c1;have a2:=q1.c2;have a3:=q1.c3;have a4:=q1.c4;have a5:=q1.c5;have b0:=q2.c0;have b1:=q2.c1;have b2:=q2.c2;have b3:=q2.c3;have b4:=q2.c4;have b5:=q2.c5;have HB4:=At hB4;clear q1 q2 m2 hv2 hb3 hb4 hB4 hB3 hb2 HF;go_wp2_with fail
   refine HC.out.mono ?_;rintro e w5 ⟨v3,z3,rfl,hv3,hz3,hb5⟩;obtain⟨err,herr⟩:∃ n,n=(φ p q).2:=⟨_,rfl⟩;rw[<-herr];have hB5:=HB4.out.trans (hb5.mono HB4.out.size);obtain⟨_,_,_,_,_,_,rfl,hx0,hy0⟩:=id hv3;obtain⟨um,up,ul,uc,uq,uk,ud,hxe⟩:=hx0.form;obtain⟨vm,vp,vl,vc,vq,vk,vd,hye⟩:=hy0.form;obtain⟨rfl,rfl,rfl⟩:=cH hxe;obtain⟨rfl,rfl,rfl⟩:=cH hye;clear hxe hye hx0 hy0 a0 a1 a2 a3 a4 a5 b0 b1 b2 b3 b4 b5 HC HV B1 HB4;by_cases he:err=0
   ·have hbc:bM φ s t=b8 (φ p q).1:=by unfold bM;rw[HP1.out,HP2.out];simp only;rw[if_pos (by rw[<-herr];exact he)]
    have hz4:=hz3 (by rw[<-herr];exact he);have HE:=At hbc;rw[hz4] at hv3;clear hbc hz3 herr hz4;subst he;go_upto_region 8 with fail
    have q3:=aW.new w5 (.bool um) (.slice up ul uc) (.slice uq uk ud) (.bool vm) (.slice vp vl vc) (.slice vq vk vd) 65;have m3:=ac w5 (.cells #[.bool um,.slice up ul uc,.slice uq uk ud,.bool vm,.slice vp vl vc,.slice vq vk vd] 65);generalize w5.alloc (.cells #[.bool um,.slice up ul uc,.slice uq uk ud,.bool vm,.slice vp vl vc,.slice vq vk vd] 65)=w6 at *
    have a0:=q3.c0;have a1:=q3.c1;have a2:=q3.c2;have a3:=q3.c3;have a4:=q3.c4;have a5:=q3.c5;have HB6:=At (hB5.trans (m3.mono hB5.size));have HG:=At (hG.below HB6.out);have HV:=At (hv3.below m3);clear q3 m3 hv3 hB5 hb5;go_wp2_with fail
    refine (tU _ _ _ HV.out HG.out).mono ?_;rintro e w7 ⟨rfl,hb7⟩;go_wp2;refine Du (v:=.tuple #[.string (b8 (φ p q).1).1,.int .i64 (b8 (φ p q).1).2]) (by simp[results,Tryz.results74,go_sem]) rfl ⟨by rw[HE.out],HB6.out.trans (hb7.mono HB6.out.size)⟩
   ·have hbc:bM φ s t=(⟨#[]⟩,err):=by unfold bM;rw[HP1.out,HP2.out];simp only;rw[if_neg (by rw[<-herr];exact he),herr]
    have HE:=At hbc;have hne:(!(err == 0))=true:=by simpa using he
    clear hbc hz3 herr;go_wp2;refine Du (v:=.tuple #[.string ⟨#[]⟩,.int .i64 err]) (by simp[results,Tryz.results74,go_sem]) rfl ⟨by rw[HE.out],hB5.trans ((ac w5 _).mono hB5.size)⟩
  ·have e:bM φ s t=(⟨#[]⟩,10):=by unfold bM;rw[eA hz2,HP1.out]
   have HE:=At e;clear e hz2;unfold fh;go_wp2;refine Du (v:=.tuple #[.string ⟨#[]⟩,.int .i64 10]) (by simp[results,Tryz.results74,go_sem]) rfl ⟨by rw[HE.out],hB3.trans ((ac w3 _).mono hB3.size)⟩
 ·have e:bM φ s t=(⟨#[]⟩,10):=by unfold bM;rw[eA hz]
  have HE:=At e;clear e hz;unfold fh;go_wp2;refine Du (v:=.tuple #[.string ⟨#[]⟩,.int .i64 10]) (by simp[results,Tryz.results74,go_sem]) rfl ⟨by rw[HE.out],hb1.trans ((ac w1 _).mono hb1.size)⟩
end Go.Proofs.YtgakllaobooabaaGreatDoor
