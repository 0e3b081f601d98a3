/- Lemmas of this claim. -/
import Derived.Test.YtomkanblohhpfaaGreatDoorYMach
import Derived.Test.YtomkanblohhpfaaGreatDoorYNat
import Derived.Test.YtomkanblohhpfaaGreatDoorYGet
import Derived.Test.YtomkanblohhpfaaGreatDoorYNQ
import Derived.Test.YtomkanblohhpfaaGreatDoorYCoef
set_option linter.all false
set_option maxRecDepth 100000
set_option maxHeartbeats 8000000
namespace Go.Proofs.YtomkanblohhpfaaGreatDoor
open Go.RowKit
def i64s (l:List Nat):List Value:=l.map fun (d:Nat)=>Value.int .i64 (d:Int)
def uG (w:World) (g cap:Nat) (l:List Nat):Prop:=w.ownsRow g 3 1 (.slice (some ⟨g,0,none⟩) l.length cap) l.length (i64s l)
theorem uG.drewN {w:World}{g cap:Nat}{l:List Nat} (h:uG w g cap l) (n:Nat):uG (w.drewN n) g cap l:=h
open Go.RowKit Dg
def RR:Nat:=10000
open Dg
theorem cw (d:Nat) (l:List Nat):val RR (d :: l)=d+RR*val RR l:=rfl
open Dg Dc
/-! ### reading -/
/-- how many digits a text begins with, m at most -/
def j0:List UInt8→Nat→Nat
 | [],_=>0
 | _ :: _,0=>0
 | c :: s,m+1=>if bh c then j0 s m+1 else 0
def iW (s:List UInt8):Nat×List UInt8:=(aY (s.take (j0 s 2001)),s.drop (j0 s 2001))
def g8 (s:List UInt8):Rt×List UInt8 :=
 if j0 s 2001=0 then (⟨false,1,1⟩,s)
 else if (iW s).2.head?=some 47∧(iW ((iW s).2.drop 1)).1≠0 then (cj false (iW s).1 (iW ((iW s).2.drop 1)).1,(iW ((iW s).2.drop 1)).2)
 else (⟨false,(iW s).1,1⟩,(iW s).2)
def tS (r:Rt):Rt:=⟨!r.minus&&decide (r.n≠0),r.n,r.d⟩
def fg (s:List UInt8):Rt×List UInt8 :=
 if s.head?=some 45 then (tS (g8 (s.drop 1)).1,(g8 (s.drop 1)).2)
 else if s.head?=some 43 then g8 (s.drop 1) else g8 s
def jL:Rt:=⟨false,0,1⟩
def gx (s:List UInt8):Vl :=
 if (fg s).2=[105] then ⟨jL,(fg s).1⟩
 else if (fg s).2=[] then ⟨(fg s).1,jL⟩
 else ⟨(fg s).1,(fg (fg s).2).1⟩
def rOK (s:List UInt8):Bool:=decide (cU (gx s)=s)&&!(ce (gx s).x||ce (gx s).y)
def sj (s:List UInt8):Bool:=rOK s&&decide ((gx s).y.n=0)
structure em (r:Rt):Prop where
 pos:0<r.d
 gcd:Nat.gcd r.n r.d=1
 sign:r.minus=true→r.n≠0
theorem jk {mi:Bool}{n d:Nat} (h:0<d):em (cj mi n d):=by
 unfold cj
 split
 ·exact⟨by decide,by decide,fun h=>by cases h⟩
 ·rename_i hn
  have hg:0<Nat.gcd n d:=xO _ h
  refine⟨y7 (yV _ h) hg,?_,fun _=>?_⟩
  ·rw[Nat.gcd_div (yU ..) (Nat.gcd_dvd_right ..),Nat.div_self hg]
  have:0<n / Nat.gcd n d:=y7 (Nat.le_of_dvd (by omega) (yU ..)) hg
  show n / Nat.gcd n d≠0
  omega
theorem jj (n:Nat):em ⟨false,n,1⟩:=⟨Nat.one_pos,Nat.gcd_one_right n,fun h=>by cases h⟩
theorem qQ {r:Rt} (h:em r):em (tS r):=⟨h.pos,h.gcd,fun hm=>by unfold tS at hm;simp at hm;exact hm.2⟩
theorem j9 (s:List UInt8):em (g8 s).1:=by
 unfold g8
 split
 ·exact jj 1
 ·split
  ·rename_i h;exact jk (by have:=h.2;omega)
  ·exact jj _
theorem fP (s:List UInt8):em (fg s).1:=by
 unfold fg
 split
 ·exact qQ (j9 _)
 ·split<;>exact j9 _
theorem j_:em jL:=jj 0
theorem po (s:List UInt8):em (gx s).x∧em (gx s).y:=by
 unfold gx
 split
 ·exact⟨j_,fP _⟩
 ·split
  ·exact⟨fP _,j_⟩
  ·exact⟨fP _,fP _⟩
theorem dl {s:List UInt8}{r:Rt} (h:bJ s=some r):em r:=by
 unfold bJ at h
 split at h
 ·cases h
 ·split at h
  ·split at h
   ·cases h
   ·split at h
    ·cases h
    ·rename_i h0;injection h with h;subst h;exact jk (by omega)
  ·injection h with h;subst h;exact jk (by decide)
theorem jb {r:Rt} (h:em r):cj r.minus r.n r.d=r:=by
 obtain⟨m,n,d⟩:=r
 have h1:=h.pos
 have h2:=h.gcd
 have h3:=h.sign
 simp only at h1 h2 h3 ⊢
 unfold cj
 rw[h2,y6,y6]
 split
 ·rename_i h0
  subst h0
  rw[Nat.gcd_zero_left] at h2
  cases m
  ·rw[h2]
  ·exact absurd rfl (h3 rfl)
 ·rfl
/-! ### texts of digits -/
theorem qX (n:Nat):∃ c r,dec n=c :: r∧bh c=true:=by
 cases h:dec n with
 | nil=>exact absurd h (eS n)
 | cons c r =>
  have:=fR n
  rw[h,List.all_cons,ws] at this
  exact⟨c,r,rfl,this.1⟩
theorem k8 {c:UInt8} (h:bh c=true):c≠43∧c≠45∧c≠47∧c≠105:=by
 unfold bh at h
 simp only[ws,decide_eq_true_eq] at h
 refine⟨?_,?_,?_,?_⟩<;>(intro e;subst e;revert h;decide)
theorem lP:∀ (l t:List UInt8) (m:Nat),l.all bh=true→l.length≤m→(∀ c,t.head?=some c→bh c=false)→j0 (l++t) m=l.length
 | [],[],m,_,_,_=>by simp[j0]
 | [],c :: t,0,_,_,_=>by simp[j0]
 | [],c :: t,m+1,_,_,h=>by
  have:=h c rfl
  simp[j0,this]
 | c :: l,t,0,_,h,_=>by simp at h
 | c :: l,t,m+1,ha,hl,h=>by
  rw[List.all_cons,ws] at ha
  rw[wQ,j0,if_pos ha.1,lP l t m ha.2 (by simpa using hl) h];rfl
theorem jK {n:Nat}{t:List UInt8} (hl:(dec n).length≤2001) (h:∀ c,t.head?=some c→bh c=false):iW (dec n++t)=(n,t)∧j0 (dec n++t) 2001=(dec n).length:=by
 have e:=lP (dec n) t 2001 (fR n) hl h
 refine⟨?_,e⟩
 unfold iW
 rw[e,List.take_left',List.drop_left',jn]<;>rfl
def jY (r:Rt):List UInt8:=dec r.n++(if 1<r.d then 47 :: dec r.d else [])
theorem f_ (r:Rt):aW r=(if r.minus then [45] else [])++jY r:=by unfold aW jY;rw[wZ]
theorem jh {r:Rt} (h:ce r=false):(dec r.n).length≤2000∧(dec r.d).length≤2000:=by
 unfold ce at h
 simp only[xJ,decide_eq_false_iff_not] at h
 omega
theorem lH (r:Rt):∃ c t,jY r=c :: t∧bh c=true:=by
 obtain⟨c,t,h1,h2⟩:=qX r.n
 exact⟨c,t++_,by unfold jY;rw[h1];rfl,h2⟩
theorem qh {r:Rt} (h:em r) (hb:ce r=false):g8 (jY r)=(⟨false,r.n,r.d⟩,[]):=by
 obtain⟨h1,h2⟩:=jh hb
 have hp:=dP r.n
 have hpos:=h.pos
 unfold jY
 split
 ·rename_i hd
  obtain⟨e1,e2⟩:=jK (n:=r.n) (t:=47 :: dec r.d) (by omega) (fun c hc=>by simp at hc;subst hc;decide)
  obtain⟨e3,_⟩:=jK (n:=r.d) (t:=[]) (by omega) (fun c hc=>by cases hc)
  rw[xG] at e3
  unfold g8
  rw[e2,if_neg (by omega),e1]
  simp only[yZ,List.drop_one,List.tail_cons]
  rw[e3,if_pos ⟨by simp,by show r.d≠0;omega⟩]
  have:=jb (r:=⟨false,r.n,r.d⟩) ⟨h.pos,h.gcd,fun h=>by cases h⟩
  rw[this]
 ·rename_i hd
  obtain⟨e1,e2⟩:=jK (n:=r.n) (t:=[]) (by omega) (fun c hc=>by cases hc)
  rw[show r.d=1 by omega]
  unfold g8
  rw[e2,if_neg (by omega),e1]
  rfl
theorem nH {r:Rt} (h:em r) (hb:ce r=false):fg (aW r)=(r,[]):=by
 rw[f_]
 have hp:=qh h hb
 obtain⟨c,t,e1,e2⟩:=lH r
 obtain⟨m,n,d⟩:=r
 cases m
 ·simp only[wt,if_false,wP]
  obtain⟨n1,n2,_⟩:=k8 e2
  unfold fg
  rw[e1] at hp ⊢
  simp only[yZ,Option.some.injEq]
  rw[if_neg n2,if_neg n1];exact hp
 ·simp only[if_true]
  have hs:=h.sign rfl
  simp only at hs
  unfold fg
  simp only[wQ,wP,yZ,if_true,List.drop_one,List.tail_cons]
  rw[hp]
  unfold tS
  simp[hs]
theorem nG {r:Rt} (h:em r) (hb:ce r=false):gx (aW r)=⟨r,jL⟩:=by
 unfold gx
 rw[nH h hb]
 simp
theorem cI {z:Vl} (h:z.y.n=0):cU z=aW z.x:=by unfold cU;rw[if_pos h]
/-! ### the program's reading of such a text -/
theorem j2 {l:List UInt8}{c d:UInt8} (h:c≠d):Lib.hasSuffix (l++[c]) [d]=false:=by
 unfold Lib.hasSuffix
 rw[wS]
 intro he
 rw[List.isSuffixOf_iff_suffix] at he
 obtain⟨t,ht⟩:=he
 have:=List.append_inj_right' ht rfl
 simp at this
 exact h this.symm
theorem lS (n:Nat):∃ l c,dec n=l++[c]∧bh c=true:=by
 have hne:=eS n
 have:=yJ hne
 exact⟨_,_,this.symm,wG.1 (fR n) _ (List.getLast_mem hne)⟩
theorem qo (r:Rt):∃ l c,aW r=l++[c]∧bh c=true:=by
 rw[f_]
 unfold jY
 by_cases hd:1<r.d
 all_goals first | rw[if_pos hd] | rw[if_neg hd]
 ·obtain⟨l,c,h1,h2⟩:=lS r.d
  exact⟨(if r.minus then [45] else [])++(dec r.n++47 :: l),c,by rw[h1];simp only[wZ,wQ],h2⟩
 ·obtain⟨l,c,h1,h2⟩:=lS r.n
  exact⟨(if r.minus then [45] else [])++l,c,by rw[h1];simp only[wZ,xG],h2⟩
theorem nC (r:Rt):ej (aW r)=(aW r,[48]):=by
 obtain⟨l,c,h1,h2⟩:=qo r
 have:Lib.hasSuffix (aW r) [105]=false:=by rw[h1];exact j2 (k8 h2).2.2.2
 unfold ej
 rw[this];rfl
theorem jI (c d:UInt8) (l:List UInt8):Lib.hasPrefix (c :: l) [d]=decide (c=d):=by
 unfold Lib.hasPrefix
 rw[Bool.eq_iff_iff,yM]
 simp[List.cons_prefix_cons,eq_comm]
theorem qu (r:Rt):Lib.trimPrefix (aW r) [45]=jY r∧Lib.hasPrefix (aW r) [45]=r.minus:=by
 rw[f_]
 obtain⟨c,t,e1,e2⟩:=lH r
 unfold Lib.trimPrefix
 cases r.minus
 ·simp only[wt,if_false,wP]
  rw[e1,jI,decide_eq_false (k8 e2).2.1]
  exact⟨rfl,rfl⟩
 ·simp only[if_true,wQ,wP]
  rw[jI,decide_eq_true rfl]
  exact⟨rfl,rfl⟩
theorem lf {s:List UInt8}{d:UInt8}{i:Nat}:Lib.occAt s [d] i=true↔s[i]?=some d:=by
 unfold Lib.occAt
 rw[yM]
 constructor
 ·rintro⟨t,ht⟩
  have:(s.drop i)[0]?=some d:=by rw[←ht];rfl
  rw[xS] at this
  simpa using this
 ·intro h
  obtain⟨hi,e⟩:=wU.1 h
  exact⟨s.drop (i+1),by rw[w_ hi,e];rfl⟩
theorem nn {s:List UInt8}{d:UInt8} (h:d∉s):Lib.index s [d]=-1:=by
 refine Lib.index_none (fun j _=>?_)
 rw[wS]
 intro he
 exact h (yg (lf.1 he))
theorem pL {l t:List UInt8}{d:UInt8} (h:d∉l):Lib.index (l++d :: t) [d]=l.length:=by
 refine Lib.index_first (by simp) (lf.2 (by simp)) (fun j hj=>?_)
 rw[wS]
 intro he
 have:=lf.1 he
 rw[List.getElem?_append_left hj] at this
 exact h (yg this)
theorem mq {l:List UInt8} (h:l.all bh=true):(47:UInt8)∉l:=fun hm=>(k8 (wG.1 h _ hm)).2.2.1 rfl
theorem fB (n:Nat):bf (dec n)=some n:=by
 unfold bf
 rw[if_pos ⟨eS n,fR n⟩,jn]
theorem mv {r:Rt} (h:em r):bJ (aW r)=some r:=by
 obtain⟨e1,e2⟩:=qu r
 have hpos:=h.pos
 unfold bJ
 rw[e1,e2]
 unfold jY Lib.cut
 by_cases hd:1<r.d
 all_goals first | rw[if_pos hd] | rw[if_neg hd]
 ·rw[pL (mq (fR r.n)),if_pos (by omega)]
  simp only[Int.toNat_natCast]
  rw[List.take_left' rfl,fB]
  simp only[if_true]
  have:(dec r.n++47 :: dec r.d).drop ((dec r.n).length+([47]:List UInt8).length)=dec r.d:=by simp[List.drop_append]
  rw[this,fB]
  simp only
  rw[if_neg (by omega),jb h]
 ·rw[xG,nn (mq (fR r.n)),if_neg (by omega)]
  simp only
  rw[fB]
  simp only[wt,if_false]
  have hd1:r.d=1:=by omega
  have:=jb h
  rw[hd1] at this
  rw[this]
theorem sQ {r:Rt} (hb:ce r=false):(aW r).length≤4002:=by
 obtain⟨h1,h2⟩:=jh hb
 rw[f_]
 unfold jY
 rw[wh,wh]
 split<;>split<;>simp<;>omega
theorem lZ {r:Rt} (h:em r) (hb:ce r=false):ef (aW r)=some ⟨r,jL⟩:=by
 have hl:=sQ hb
 unfold ef
 rw[if_neg (by omega),nC,mv h]
 simp only
 rw[mw]
 simp only
 rw[if_pos ⟨cI rfl,hb,f9⟩];rfl
theorem sr (s:List UInt8):(eJ s=true↔∃ r,em r∧ce r=false∧s=aW r)∧(sj s=true↔∃ r,em r∧ce r=false∧s=aW r):=by
 refine⟨⟨fun h=>?_,?_⟩,⟨fun h=>?_,?_⟩⟩
 ·unfold eJ at h
  cases hg:ef s with
  | none=>rw[hg] at h;cases h
  | some z =>
   rw[hg] at h
   have hy:=of_decide_eq_true h
   unfold ef at hg
   split at hg
   ·cases hg
   ·split at hg
    ·rename_i p q hp hq
     split at hg
     ·rename_i hc
      injection hg with hg
      subst hg
      refine⟨p,dl hp,hc.2.1,?_⟩
      rw[←hc.1]
      exact cI hy
     ·cases hg
    ·cases hg
 ·rintro⟨r,h1,h2,rfl⟩
  unfold eJ
  rw[lZ h1 h2];rfl
 ·unfold sj rOK at h
  simp only[ws,decide_eq_true_eq,Bool.not_eq_true',xJ] at h
  exact⟨(gx s).x,(po s).1,h.1.2.1,by rw[←cI h.2];exact h.1.1.symm⟩
 ·rintro⟨r,h1,h2,rfl⟩
  unfold sj rOK
  rw[nG h1 h2,cI rfl]
  simp[h2,f9,show ce jL=false from f9,show jL.n=0 from rfl]
open Go.RowKit Dg Dc
def toQ (r:Rt):Rat:=mkRat (sgz r.minus r.n) r.d
theorem sC {r:Rt} (h:em r):rt (toQ r)=r:=by unfold toQ;rw[←ja _ _ _ h.pos,jb h]
theorem vj (q:Rat):toQ (rt q)=q:=by
 unfold toQ
 rw[jO]
 exact Rat.mkRat_self q
theorem n_ (q:Rat):em (rt q):=⟨q.den_pos,q.reduced,fun h=>by
 unfold rt at h ⊢
 simp only[decide_eq_true_eq] at h ⊢
 omega⟩
def dM (z:CQ):Bool:=ce (rt z.re)||ce (rt z.im)
def txt (z:CQ):ByteArray:=⟨(cU (ct z)).toArray⟩
def d7 (s:ByteArray):Option CQ:=(ef s.data.toList).map fun z=>⟨toQ z.x,toQ z.y⟩
def bX (z:CQ):ByteArray×Int:=if dM z=true then (⟨#[]⟩,11) else (txt z,0)
theorem fv {s:ByteArray}{l:List UInt8} (h:s.data.toList=l):s=⟨l.toArray⟩:=by
 obtain⟨⟨d⟩⟩:=s
 simp only at h
 rw[h]
theorem qN {r:Rt} (hb:ce r=false) (hp:0<r.d):Sz 2000 r:=by
 obtain⟨h1,h2⟩:=jh hb
 refine⟨?_,hp,?_⟩
 ·exact Nat.lt_of_not_le fun h=>by have:=gq h;omega
 ·exact Nat.lt_of_not_le fun h=>by have:=gq h;omega
theorem eV {s:ByteArray}{z:Vl} (h:ef s.data.toList=some z):∃ q,z=ct q∧d7 s=some q∧SzV 2000 (ct q)∧dM q=false∧txt q=s:=by
 have h':=h
 unfold ef at h
 split at h
 ·cases h
 ·split at h
  ·rename_i p q hp hq
   split at h
   ·rename_i hc
    injection h with h
    subst h
    have e1:=sC (dl hp)
    have e2:=sC (dl hq)
    have e:(⟨p,q⟩:Vl)=ct ⟨toQ p,toQ q⟩:=by unfold ct;rw[e1,e2]
    refine⟨⟨toQ p,toQ q⟩,e,by unfold d7;rw[h'];rfl,?_,?_,?_⟩
    ·rw[←e];exact⟨qN hc.2.1 (dl hp).pos,qN hc.2.2 (dl hq).pos⟩
    ·unfold dM;simp only;rw[e1,e2,hc.2.1,hc.2.2];rfl
    ·unfold txt;rw[←e,hc.1]
   ·cases h
  ·cases h
theorem dJ {s:ByteArray} (h:ef s.data.toList=none):d7 s=none:=by unfold d7;rw[h];rfl
theorem pI {q:Rat} (h:dM (CQ.real q)=false):d7 (txt (CQ.real q))=some (CQ.real q):=by
 have h1:ce (rt q)=false:=by unfold dM CQ.real at h;simp only[xJ] at h;exact h.1
 have e:cU (ct (CQ.real q))=aW (rt q):=cI (z:=ct (CQ.real q)) (by show (rt 0).n=0;rw[g_])
 unfold d7 txt
 simp only[List.toList_toArray]
 rw[e,lZ (n_ q) h1]
 simp only[y5,vj]
 congr 1
theorem lY {s:ByteArray}{z:CQ} (h:d7 s=some z):dM z=false∧txt z=s∧SzV 2000 (ct z):=by
 cases hg:ef s.data.toList with
 | none=>rw[dJ hg] at h;cases h
 | some y =>
  obtain⟨q,-,h1,h2,h3,h4⟩:=eV hg
  rw[h1] at h
  injection h with h
  subst h
  exact⟨h3,h4,h2⟩
def bG (φ:CQ→CQ→CQ×Int) (s t:ByteArray):ByteArray×Int :=
 match d7 s,d7 t with
 | some a,some b=>if (φ a b).2=0 then bX (φ a b).1 else (⟨#[]⟩,(φ a b).2)
 | _,_=>(⟨#[]⟩,10)
def ed (f:CQ→CQ→CQ) (a b:CQ):CQ×Int:=(f a b,0)
def lW (a b:CQ):CQ×Int:=if b=⟨0,0⟩ then (⟨0,0⟩,12) else (a.div b,0)
def ft (s t:ByteArray):ByteArray:=(bG (ed CQ.add) s t).1
def fK (s t:ByteArray):ByteArray:=(bG (ed CQ.sub) s t).1
def bZ (s t:ByteArray):ByteArray:=(bG (ed CQ.mul) s t).1
def bE (s t:ByteArray):ByteArray:=(bG lW s t).1
theorem sY (va:Value) (u:Vl) (w:World) (ha:IsV w va u) :
  Calls Tryz.prog 136 #[va] w fun e w'=>e=.returned (.bool (decide (u.x.n=0∧u.y.n=0)))∧Below w.heap.size w w':=by
 obtain⟨a,b,c,d,e,f,rfl,hx,hy⟩:=ha
 have hb0:=ac w (.cells #[a,b,c,d,e,f] 83)
 have HB:=vL hb0
 have H1:=vL (d6 _ _ _ (hx.below hb0))
 have H2:=vL (fun wx (hw:Below (w.alloc (.cells #[a,b,c,d,e,f] 83)).heap.size (w.alloc (.cells #[a,b,c,d,e,f] 83)) wx)=>d6 _ _ _ ((hy.below hb0).below hw))
 have q1:=aR.new w a b c d e f 83
 clear hb0
 go_enter Tryz.func136,Tryz.ntmps136
 go_upto_region 1 with fail
 generalize w.alloc (.cells #[a,b,c,d,e,f] 83)=w1 at *
 have a0:=q1.c0;have a1:=q1.c1;have a2:=q1.c2;have a3:=q1.c3;have a4:=q1.c4;have a5:=q1.c5
 by_cases h:u.x.n=0
 ·rw[decide_eq_true h] at H1
  go_wp2_with fail
  refine H1.out.mono ?_
  rintro e w2 ⟨rfl,hb2⟩
  have q2:=q1.below hb2
  have c0:=q2.c0;have c1:=q2.c1;have c2:=q2.c2;have c3:=q2.c3;have c4:=q2.c4;have c5:=q2.c5
  clear a0 a1 a2 a3 a4 a5
  go_wp2_with fail
  refine (H2.out w2 hb2).mono ?_
  rintro e w3 ⟨rfl,hb3⟩
  go_wp2
  go_ret
  exact⟨by simp[h],HB.out.trans ((hb2.trans (hb3.mono hb2.size)).mono HB.out.size)⟩
 ·rw[decide_eq_false h] at H1
  go_wp2_with fail
  refine H1.out.mono ?_
  rintro e w2 ⟨rfl,hb2⟩
  go_wp2
  go_ret
  exact⟨by simp[h],HB.out.trans (hb2.mono HB.out.size)⟩
theorem se (va:Value) (z:CQ) (w:World) (ha:IsV w va (ct z)) (hG:Gw w) :
  Calls Tryz.prog 48 #[va] w fun e w'=>e=.returned (.tuple #[.string (bX z).1,.int .i64 (bX z).2])∧Below w.heap.size w w':=by
 have ha0:=ha
 obtain⟨a,b,c,d,e,f,rfl,hx,hy⟩:=ha
 have hb0:=ac w (.cells #[a,b,c,d,e,f] 83)
 have HB:=vL hb0
 have H1:=vL (kT _ _ _ (hx.below hb0) (hG.below hb0))
 have H2:=vL (fun wx (hw:Below (w.alloc (.cells #[a,b,c,d,e,f] 83)).heap.size (w.alloc (.cells #[a,b,c,d,e,f] 83)) wx)=>kT _ _ _ ((hy.below hb0).below hw) ((hG.below hb0).below hw))
 have H3:=vL (fun wx (hw:Below (w.alloc (.cells #[a,b,c,d,e,f] 83)).heap.size (w.alloc (.cells #[a,b,c,d,e,f] 83)) wx)=>kL _ _ _ ((ha0.below hb0).below hw) (cS _) (cS _) ((hG.below hb0).below hw))
 have q1:=aR.new w a b c d e f 83
 clear hb0 ha0 hx hy
 go_enter Tryz.func48,Tryz.ntmps48
 go_upto_region 1 with fail
 generalize w.alloc (.cells #[a,b,c,d,e,f] 83)=w1 at *
 have a0:=q1.c0;have a1:=q1.c1;have a2:=q1.c2;have a3:=q1.c3;have a4:=q1.c4;have a5:=q1.c5
 by_cases h:ce (rt z.re)=true
 ·rw[show ce (ct z).x=true from h] at H1
  go_wp2_with fail
  refine H1.out.mono ?_
  rintro e w2 ⟨rfl,hb2⟩
  have hp:bX z=(⟨#[]⟩,11):=by unfold bX dM;rw[h];rfl
  go_wp2
  refine bodyPost_ret (v:=.tuple #[.string ⟨#[]⟩,.int .i64 11]) (by simp[results,Tryz.results48,go_sem]) rfl ⟨by rw[hp],HB.out.trans (hb2.mono HB.out.size)⟩
 ·rw[show ce (ct z).x=false from wS.2 h] at H1
  go_wp2_with fail
  refine H1.out.mono ?_
  rintro e w2 ⟨rfl,hb2⟩
  have q2:=q1.below hb2
  have c0:=q2.c0;have c1:=q2.c1;have c2:=q2.c2;have c3:=q2.c3;have c4:=q2.c4;have c5:=q2.c5
  clear a0 a1 a2 a3 a4 a5
  have H2:=vL (H2.out w2 hb2)
  by_cases h2:ce (rt z.im)=true
  ·rw[show ce (ct z).y=true from h2] at H2
   go_wp2_with fail
   refine H2.out.mono ?_
   rintro e w3 ⟨rfl,hb3⟩
   have hp:bX z=(⟨#[]⟩,11):=by unfold bX dM;rw[h2];simp
   go_wp2
   refine bodyPost_ret (v:=.tuple #[.string ⟨#[]⟩,.int .i64 11]) (by simp[results,Tryz.results48,go_sem]) rfl ⟨by rw[hp],HB.out.trans ((hb2.trans (hb3.mono hb2.size)).mono HB.out.size)⟩
  ·rw[show ce (ct z).y=false from wS.2 h2] at H2
   go_wp2_with fail
   refine H2.out.mono ?_
   rintro e w3 ⟨rfl,hb3⟩
   have hB3:=hb2.trans (hb3.mono hb2.size)
   have q3:=q1.below hB3
   have d0:=q3.c0;have d1:=q3.c1;have d2:=q3.c2;have d3:=q3.c3;have d4:=q3.c4;have d5:=q3.c5
   clear c0 c1 c2 c3 c4 c5
   have hp:bX z=(txt z,0):=by unfold bX dM;rw[if_neg (by simpa using ⟨by simpa using h,by simpa using h2⟩)]
   have HP:=vL hp
   clear hp
   go_wp2_with fail
   refine (H3.out w3 hB3).mono ?_
   rintro e w4 ⟨t,rfl,ht,-,hb4⟩
   go_wp2
   refine bodyPost_ret (v:=.tuple #[.string t,.int .i64 0]) (by simp[results,Tryz.results48,go_sem]) rfl ⟨?_,HB.out.trans ((hB3.trans (hb4.mono hB3.size)).mono HB.out.size)⟩
   rw[HP.out]
   have:t=txt z:=fv ht.out
   rw[this]
theorem cD {a b c a' b' c':Value} (h:Value.agg #[a,b,c]=.agg #[a',b',c']):a=a'∧b=b'∧c=c':=by simpa using h
structure uD (F:FuncId) (cap:Array Value) (φ:CQ→CQ→CQ×Int) (w:World):Prop where
 en:∀ (args:Array Value) (w:World),(callFunc F args).run Tryz.prog w=.ok (.enter F args) w
 on:∀ (x y:Value) (a b:CQ) (w':World),Below w.heap.size w w'→IsK w' x a→IsK w' y b→Calls Tryz.prog F (#[x,y]++cap) w' fun e w''=>∃ v z,e=.returned (.tuple #[v,.int .i64 (φ a b).2])∧IsV w'' v z∧((φ a b).2=0→z=ct (φ a b).1)∧Below w'.heap.size w' w''
theorem n7 (F:FuncId) (cap:Array Value) (φ:CQ→CQ→CQ×Int) (s t:ByteArray) (w:World) (hG:Gw w) (hF:uD F cap φ w) :
  Calls Tryz.prog 59 #[.string s,.string t,.func (.func F) #[] cap] w fun e w'=>e=.returned (.tuple #[.string (bG φ s t).1,.int .i64 (bG φ s t).2])∧Below w.heap.size w w':=by
 have HF:=vL hF
 have EN:=hF.en
 clear hF
 go_enter Tryz.func59,Tryz.ntmps59
 go_wp2_with fail
 refine (fT s w hG).mono ?_
 rintro e w1 ⟨v,ok,rfl,hcase,hb1⟩
 rcases hcase with ⟨z,hz,rfl,hv⟩ | ⟨hz,rfl,rfl⟩
 ·obtain⟨p,rfl,hp1,hp2,-,-⟩:=eV hz
  have HP1:=vL hp1
  clear hz hp1
  obtain⟨_,_,_,_,_,_,rfl,hx0,hy0⟩:=id hv
  obtain⟨xm,xp,xl,xc,xq,xk,xd,hxe⟩:=hx0.form
  obtain⟨ym,yp,yl,yc,yq,yk,yd,hye⟩:=hy0.form
  obtain⟨rfl,rfl,rfl⟩:=cD hxe
  obtain⟨rfl,rfl,rfl⟩:=cD hye
  clear hxe hye hx0 hy0
  go_upto_region 2 with fail
  have q1:=aR.new w1 (.bool xm) (.slice xp xl xc) (.slice xq xk xd) (.bool ym) (.slice yp yl yc) (.slice yq yk yd) 83
  have m1:=ac w1 (.cells #[.bool xm,.slice xp xl xc,.slice xq xk xd,.bool ym,.slice yp yl yc,.slice yq yk yd] 83)
  generalize w1.alloc (.cells #[.bool xm,.slice xp xl xc,.slice xq xk xd,.bool ym,.slice yp yl yc,.slice yq yk yd] 83)=w2 at *
  have B1:=vL q1
  have HV:=vL (hv.below m1)
  have hb2:=hb1.trans (m1.mono hb1.size)
  clear q1 hv m1
  go_wp2_with fail
  refine (fT t w2 (hG.below hb2)).mono ?_
  rintro e w3 ⟨v2,ok2,rfl,hcase,hb3⟩
  have hB3:=hb2.trans (hb3.mono hb2.size)
  rcases hcase with ⟨z2,hz2,rfl,hv2⟩ | ⟨hz2,rfl,rfl⟩
  ·obtain⟨q,rfl,hr1,hr2,-,-⟩:=eV hz2
   have HP2:=vL hr1
   clear hz2 hr1
   obtain⟨_,_,_,_,_,_,rfl,hx0,hy0⟩:=id hv2
   obtain⟨xm',xp',xl',xc',xq',xk',xd',hxe⟩:=hx0.form
   obtain⟨ym',yp',yl',yc',yq',yk',yd',hye⟩:=hy0.form
   obtain⟨rfl,rfl,rfl⟩:=cD hxe
   obtain⟨rfl,rfl,rfl⟩:=cD hye
   clear hxe hye hx0 hy0
   go_upto_region 5 with fail
   have q2:=aR.new w3 (.bool xm') (.slice xp' xl' xc') (.slice xq' xk' xd') (.bool ym') (.slice yp' yl' yc') (.slice yq' yk' yd') 83
   have m2:=ac w3 (.cells #[.bool xm',.slice xp' xl' xc',.slice xq' xk' xd',.bool ym',.slice yp' yl' yc',.slice yq' yk' yd'] 83)
   generalize w3.alloc (.cells #[.bool xm',.slice xp' xl' xc',.slice xq' xk' xd',.bool ym',.slice yp' yl' yc',.slice yq' yk' yd'] 83)=w4 at *
   have hb4:=hb3.trans (m2.mono hb3.size)
   have hB4:=hb2.trans (hb4.mono hb2.size)
   have q1:=B1.out.below hb4
   have HC:=vL (HF.out.on _ _ p q w4 hB4 ⟨HV.out.below hb4,hp2.mono (by decide)⟩ ⟨hv2.below m2,hr2.mono (by decide)⟩)
   have a0:=q1.c0;have a1:=q1.c1;have a2:=q1.c2;have a3:=q1.c3;have a4:=q1.c4;have a5:=q1.c5
   have b0:=q2.c0;have b1:=q2.c1;have b2:=q2.c2;have b3:=q2.c3;have b4:=q2.c4;have b5:=q2.c5
   have HB4:=vL hB4
   clear q1 q2 m2 hv2 hb3 hb4 hB4 hB3 hb2 HF
   go_wp2_with fail
   refine HC.out.mono ?_
   rintro e w5 ⟨v3,z3,rfl,hv3,hz3,hb5⟩
   obtain⟨err,herr⟩:∃ n,n=(φ p q).2:=⟨_,rfl⟩
   rw[←herr]
   have hB5:=HB4.out.trans (hb5.mono HB4.out.size)
   obtain⟨_,_,_,_,_,_,rfl,hx0,hy0⟩:=id hv3
   obtain⟨um,up,ul,uc,uq,uk,ud,hxe⟩:=hx0.form
   obtain⟨vm,vp,vl,vc,vq,vk,vd,hye⟩:=hy0.form
   obtain⟨rfl,rfl,rfl⟩:=cD hxe
   obtain⟨rfl,rfl,rfl⟩:=cD hye
   clear hxe hye hx0 hy0 a0 a1 a2 a3 a4 a5 b0 b1 b2 b3 b4 b5 HC HV B1 HB4
   by_cases he:err=0
   ·have hbc:bG φ s t=bX (φ p q).1:=by unfold bG;rw[HP1.out,HP2.out];simp only;rw[if_pos (by rw[←herr];exact he)]
    have hz4:=hz3 (by rw[←herr];exact he)
    have HE:=vL hbc
    rw[hz4] at hv3
    clear hbc hz3 herr hz4
    subst he
    go_upto_region 8 with fail
    have q3:=aR.new w5 (.bool um) (.slice up ul uc) (.slice uq uk ud) (.bool vm) (.slice vp vl vc) (.slice vq vk vd) 83
    have m3:=ac w5 (.cells #[.bool um,.slice up ul uc,.slice uq uk ud,.bool vm,.slice vp vl vc,.slice vq vk vd] 83)
    generalize w5.alloc (.cells #[.bool um,.slice up ul uc,.slice uq uk ud,.bool vm,.slice vp vl vc,.slice vq vk vd] 83)=w6 at *
    have a0:=q3.c0;have a1:=q3.c1;have a2:=q3.c2;have a3:=q3.c3;have a4:=q3.c4;have a5:=q3.c5
    have HB6:=vL (hB5.trans (m3.mono hB5.size))
    have HG:=vL (hG.below HB6.out)
    have HV:=vL (hv3.below m3)
    clear q3 m3 hv3 hB5 hb5
    go_wp2_with fail
    refine (se _ _ _ HV.out HG.out).mono ?_
    rintro e w7 ⟨rfl,hb7⟩
    go_wp2
    refine bodyPost_ret (v:=.tuple #[.string (bX (φ p q).1).1,.int .i64 (bX (φ p q).1).2]) (by simp[results,Tryz.results59,go_sem]) rfl ⟨by rw[HE.out],HB6.out.trans (hb7.mono HB6.out.size)⟩
   ·have hbc:bG φ s t=(⟨#[]⟩,err):=by unfold bG;rw[HP1.out,HP2.out];simp only;rw[if_neg (by rw[←herr];exact he),herr]
    have HE:=vL hbc
    have hne:(!(err == 0))=true:=by simpa using he
    clear hbc hz3 herr
    go_wp2
    refine bodyPost_ret (v:=.tuple #[.string ⟨#[]⟩,.int .i64 err]) (by simp[results,Tryz.results59,go_sem]) rfl ⟨by rw[HE.out],hB5.trans ((ac w5 _).mono hB5.size)⟩
  ·have e:bG φ s t=(⟨#[]⟩,10):=by unfold bG;rw[dJ hz2,HP1.out]
   have HE:=vL e
   clear e hz2
   unfold eh
   go_wp2
   refine bodyPost_ret (v:=.tuple #[.string ⟨#[]⟩,.int .i64 10]) (by simp[results,Tryz.results59,go_sem]) rfl ⟨by rw[HE.out],hB3.trans ((ac w3 _).mono hB3.size)⟩
 ·have e:bG φ s t=(⟨#[]⟩,10):=by unfold bG;rw[dJ hz]
  have HE:=vL e
  clear e hz
  unfold eh
  go_wp2
  refine bodyPost_ret (v:=.tuple #[.string ⟨#[]⟩,.int .i64 10]) (by simp[results,Tryz.results59,go_sem]) rfl ⟨by rw[HE.out],hb1.trans ((ac w1 _).mono hb1.size)⟩
end Go.Proofs.YtomkanblohhpfaaGreatDoor
