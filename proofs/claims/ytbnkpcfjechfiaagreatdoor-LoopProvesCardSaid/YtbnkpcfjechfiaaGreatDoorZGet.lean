/- Lemmas of this claim. -/
import Derived.BigQuiet
import Derived.WalkMore
import Derived.Deep.DeepCutAuto
import Derived.Deep.CutBlock
import Derived.Deep.CutRange
import Derived.Deep.RegionWith
import Derived.RegionTactic
import Derived.Lib.SplitLaws
import Derived.Lib.SmallJoins
import Derived.Test.YtbnkpcfjechfiaaGreatDoorZRed
set_option linter.all false
set_option maxRecDepth 100000
set_option maxHeartbeats 8000000
namespace Go.Proofs.YtbnkpcfjechfiaaGreatDoor
open Go.RowKit Dc Dg
def dH (t:List UInt8):Nat→Option Nat
 | 0=>none
 | k+1=>if t[k+1]?=some 43∨t[k+1]?=some 45 then some (k+1) else dH t k
def lJ (t:List UInt8):List UInt8×List UInt8 :=
 match dH t (t.length-1) with
 | none=>([48],t)
 | some k=>(t.take k,Lib.trimPrefix (t.drop k) [43])
def fU (s:List UInt8):List UInt8×List UInt8 :=
 if Lib.hasSuffix s [105]=true then
  (fun p:List UInt8×List UInt8=>(p.1,if p.2=[]∨p.2=[45] then p.2++[49] else p.2))
   (lJ (Lib.trimSuffix s [105]))
 else (s,[48])
def gg (s:List UInt8):Option Vl :=
 if 8008<s.length then none else
 match cT (fU s).1,cT (fU s).2 with
 | some p,some q=>if bI ⟨p,q⟩=s∧cX p=false∧cX q=false then some ⟨p,q⟩ else none
 | _,_=>none
theorem k_ {mi:Bool}{n d:Nat} (h:0<d):0<(du mi n d).d:=by
 unfold du
 split
 ·decide
 ·exact IE (IN _ h) (Gy _ h)
theorem l_ {s:List UInt8}{r:Rt} (h:cT s=some r):0<r.d:=by
 unfold cT at h
 split at h
 ·cases h
 ·split at h
  ·split at h
   ·cases h
   ·split at h
    ·cases h
    ·rename_i h0;injection h with h;subst h;exact k_ (by omega)
  ·injection h with h;subst h;exact k_ (by decide)
structure cS (w:World) (k:Nat) (a b c d e f:Value):Prop where
 hp:w.heap[k]?=some (.cells #[a,b,c,d,e,f] 153 (0,0))
 na:∀ z,a≠.int .u64 z
 nb:∀ z,b≠.int .u64 z
 nc:∀ z,c≠.int .u64 z
 nd:∀ z,d≠.int .u64 z
 ne:∀ z,e≠.int .u64 z
 nf:∀ z,f≠.int .u64 z
theorem cS.lt {w:World}{k:Nat}{a b c d e f:Value} (h:cS w k a b c d e f):k<w.heap.size:=(Fs.1 h.hp).1
theorem cS.cell {w:World}{k:Nat}{a b c d e f:Value} (h:cS w k a b c d e f) (j:Nat):w.cell? ⟨k,j,none⟩=#[a,b,c,d,e,f][j]?:=by rw[World.cell?,h.hp];rfl
theorem cS.fr {w:World}{k:Nat}{a b c d e f:Value} (h:cS w k a b c d e f) (j:Nat):w.frozen? ⟨k,j,none⟩=false:=by
 rw[World.frozen?,h.hp];simp
theorem cS.below {w w':World}{k:Nat}{a b c d e f:Value} (h:cS w k a b c d e f) (hb:Below w.heap.size w w'):cS w' k a b c d e f :=
 ⟨by rw[hb.block k h.lt];exact h.hp,h.na,h.nb,h.nc,h.nd,h.ne,h.nf⟩
theorem cS.new (w:World) (a b c d e f:Value) (na:∀ z,a≠.int .u64 z) (nb:∀ z,b≠.int .u64 z) (nc:∀ z,c≠.int .u64 z) (nd:∀ z,d≠.int .u64 z) (ne:∀ z,e≠.int .u64 z) (nf:∀ z,f≠.int .u64 z):cS (w.alloc (.cells #[a,b,c,d,e,f] 153)) w.heap.size a b c d e f :=
 ⟨heap_alloc_new w _,na,nb,nc,nd,ne,nf⟩
theorem cS.other {w:World}{k:Nat}{a b c d e f:Value} (h:cS w k a b c d e f) {v:Value}{l:List Nat} (hv:IsU w v l) (j:Nat) (u:Value):IsU (w.setCell ⟨k,j,none⟩ u) v l:=by
 obtain⟨p,cap,e1,h1,h2,h3⟩:=hv
 refine⟨p,cap,e1,h1,h2,fun hl=>?_⟩
 obtain⟨b',o,e2,hlt,hc⟩:=h3 hl
 have hne:b'≠k:=by
  intro e3
  subst e3
  have h0:=hc 0 hl
  rw[h.cell] at h0
  match o+0,h0 with
  | 0,h0=>simp at h0;exact h.na _ h0
  | 1,h0=>simp at h0;exact h.nb _ h0
  | 2,h0=>simp at h0;exact h.nc _ h0
  | 3,h0=>simp at h0;exact h.nd _ h0
  | 4,h0=>simp at h0;exact h.ne _ h0
  | 5,h0=>simp at h0;exact h.nf _ h0
  | n+6,h0=>simp at h0
 refine⟨b',o,e2,by simpa[World.setCell] using hlt,fun i hi=>?_⟩
 rw[World.cell?_setCell_other _ _ _ _ (by intro e3;exact hne (congrArg Addr.block e3).symm)]
 exact hc i hi
theorem ol {P:Program}{f:FuncId}{args:Array Value}{w:World}{n m:Nat}{v:Value}
  (h:Calls P f args (w.drewN (n+m)) fun e w'=>e=.returned v∧w'=w.drewN (n+m)):Calls P f args (w.drewN (n+m)) fun e w''=>e=.returned v∧∃ k,w''=w.drewN (n+k) :=
 h.mono fun _ _ ⟨he,hm⟩=>⟨he,m,hm⟩
theorem mj (s p:ByteArray) (w:World) :
  Calls Tryz.prog 157 #[.string s,.string p] w fun e w'=>e=.returned (.string ⟨(Lib.trimPrefix s.data.toList p.data.toList).toArray⟩)∧w'=w:=by
 refine (Tryz.strings_TrimPrefix s p w).mono ?_
 rintro e w' ⟨rfl,rfl⟩
 exact⟨rfl,rfl⟩
theorem uI (s p:ByteArray) (w:World) (hs:s.size≤9223372036854775807) :
  Calls Tryz.prog 185 #[.string s,.string p] w fun e w'=>∃ (t:ByteArray) (b:Bool),e=.returned (.tuple #[.string t,.bool b])∧Hid (Lib.hasSuffix s.data.toList p.data.toList=b)∧Hid (t.data.toList=Lib.trimSuffix s.data.toList p.data.toList)∧t.size≤s.size∧w=w':=by
 refine (uJ s p w hs).mono ?_
 rintro e w' ⟨t,rfl,h1,h2,h3⟩
 exact⟨t,_,rfl,rfl,h1,h2,h3⟩
def d_ (w:World) (k:Nat) (a b c d e f:Value):World :=
 (((((w.setCell ⟨k,0,none⟩ a).setCell ⟨k,1,none⟩ b).setCell ⟨k,2,none⟩ c).setCell ⟨k,3,none⟩ d).setCell ⟨k,4,none⟩ e).setCell ⟨k,5,none⟩ f
theorem cS.put {w:World}{k:Nat}{a b c d e f a' b' c' d' e' f':Value} (h:cS w k a b c d e f) (na:∀ z,a'≠.int .u64 z) (nb:∀ z,b'≠.int .u64 z) (nc:∀ z,c'≠.int .u64 z) (nd:∀ z,d'≠.int .u64 z) (ne:∀ z,e'≠.int .u64 z) (nf:∀ z,f'≠.int .u64 z) :
  cS (d_ w k a' b' c' d' e' f') k a' b' c' d' e' f' ∧
  (∀ v l,IsU w v l→IsU (d_ w k a' b' c' d' e' f') v l) ∧
  ∀ w0,Below w0.heap.size w0 w→w0.heap.size≤k→Below w0.heap.size w0 (d_ w k a' b' c' d' e' f'):=by
 have h1:cS (w.setCell ⟨k,0,none⟩ a') k a' b c d e f:=⟨by rw[heap_setCell_same w k 0 #[a,b,c,d,e,f] _ a' h.hp];rfl,na,h.nb,h.nc,h.nd,h.ne,h.nf⟩
 have h2:cS ((w.setCell ⟨k,0,none⟩ a').setCell ⟨k,1,none⟩ b') k a' b' c d e f:=⟨by rw[heap_setCell_same _ k 1 #[a',b,c,d,e,f] _ b' h1.hp];rfl,na,nb,h.nc,h.nd,h.ne,h.nf⟩
 have h3:cS (((w.setCell ⟨k,0,none⟩ a').setCell ⟨k,1,none⟩ b').setCell ⟨k,2,none⟩ c') k a' b' c' d e f:=⟨by rw[heap_setCell_same _ k 2 #[a',b',c,d,e,f] _ c' h2.hp];rfl,na,nb,nc,h.nd,h.ne,h.nf⟩
 have h4:cS ((((w.setCell ⟨k,0,none⟩ a').setCell ⟨k,1,none⟩ b').setCell ⟨k,2,none⟩ c').setCell ⟨k,3,none⟩ d') k a' b' c' d' e f:=⟨by rw[heap_setCell_same _ k 3 #[a',b',c',d,e,f] _ d' h3.hp];rfl,na,nb,nc,nd,h.ne,h.nf⟩
 have h5:cS (((((w.setCell ⟨k,0,none⟩ a').setCell ⟨k,1,none⟩ b').setCell ⟨k,2,none⟩ c').setCell ⟨k,3,none⟩ d').setCell ⟨k,4,none⟩ e') k a' b' c' d' e' f:=⟨by rw[heap_setCell_same _ k 4 #[a',b',c',d',e,f] _ e' h4.hp];rfl,na,nb,nc,nd,ne,h.nf⟩
 have h6:cS (d_ w k a' b' c' d' e' f') k a' b' c' d' e' f':=⟨by unfold d_;rw[heap_setCell_same _ k 5 #[a',b',c',d',e',f] _ f' h5.hp];rfl,na,nb,nc,nd,ne,nf⟩
 refine⟨h6,fun v l hv=>h5.other (h4.other (h3.other (h2.other (h1.other (h.other hv 0 a') 1 b') 2 c') 3 d') 4 e') 5 f',fun w0 hb hk=>?_⟩
 exact (((((hb.setCell (p:=⟨k,0,none⟩) hk _).setCell (p:=⟨k,1,none⟩) hk _).setCell (p:=⟨k,2,none⟩) hk _).setCell (p:=⟨k,3,none⟩) hk _).setCell (p:=⟨k,4,none⟩) hk _).setCell (p:=⟨k,5,none⟩) hk _
structure GSt (w0 w:World) (k:Nat):Prop where
 own:cS w k (.bool false) (.slice none 0 0) (.slice none 0 0) (.bool false) (.slice none 0 0) (.slice none 0 0)
 hG:Gw w
 bl:Below w0.heap.size w0 w
theorem GSt.below {w0 w w':World}{k:Nat} (h:GSt w0 w k) (hb:Below w.heap.size w w'):GSt w0 w' k :=
 ⟨h.own.below hb,h.hG.below hb,h.bl.trans (hb.mono h.bl.size)⟩
def ic:Value:=.agg #[.bool false,.slice none 0 0,.slice none 0 0,.bool false,.slice none 0 0,.slice none 0 0]
def Cp (s:List UInt8) (w:World) (e:Ending) (w':World):Prop :=
 ∃ v ok,e=.returned (.tuple #[v,.bool ok])∧((∃ z,gg s=some z∧ok=true∧IsV w' v z)∨(gg s=none∧ok=false∧v=ic))∧Below w.heap.size w w'
theorem tQ {t:List UInt8}{m:Nat} (h:t[m+1]?=some 43∨t[m+1]?=some 45):dH t (m+1)=some (m+1):=by
 unfold dH;rw[if_pos h]
theorem tP {t:List UInt8}{m:Nat} (h:¬ (t[m+1]?=some 43∨t[m+1]?=some 45)):dH t (m+1)=dH t m:=by
 rw[dH,if_neg h]
theorem mF {t:ByteArray}{k:Nat} (h:k<t.size) {c:UInt8}:t.data.toList[k]?=some c↔((t[k].toNat:Nat):Int)=(c.toNat:Nat):=by
 rw[FB (by rw[bA];exact h),Option.some_inj]
 show t[k]=c↔_
 constructor
 ·intro e;rw[e]
 ·intro e;exact UInt8.toNat_inj.1 (by omega)
theorem Bk {t:ByteArray}{k:Nat} (h0:0<k) (h:k<t.size) (h1:¬ ((t[k].toNat:Nat):Int)=43) (h2:¬ ((t[k].toNat:Nat):Int)=45):dH t.data.toList k=dH t.data.toList (k-1):=by
 obtain⟨m,rfl⟩:∃ m,k=m+1:=⟨k-1,by omega⟩
 exact tP (fun hh=>hh.elim (fun e=>h1 ((mF h).1 e)) (fun e=>h2 ((mF h).1 e)))
theorem Bm {t:ByteArray}{k m:Nat} (hs:dH t.data.toList m=dH t.data.toList k) (hm:m=t.data.toList.length-1) (h0:0<k) (h:k<t.size) (h1:((t[k].toNat:Nat):Int)=43∨((t[k].toNat:Nat):Int)=45) {x y:List UInt8} (hx:x=t.data.toList.take k) (hy:y=Lib.trimPrefix (t.data.toList.drop k) [43]):Hid (lJ t.data.toList=(x,y)):=by
 subst hm
 obtain⟨m,rfl⟩:∃ m,k=m+1:=⟨k-1,by omega⟩
 unfold Hid lJ
 rw[hs,tQ (h1.elim (fun e=>Or.inl ((mF h).2 e)) (fun e=>Or.inr ((mF h).2 e))),hx,hy]
theorem pR {t:ByteArray}{k m:Nat}{w0 wz:World} (hs:dH t.data.toList m=dH t.data.toList k) (h0:0<k) (h:k<t.size) (h1:((t[k].toNat:Nat):Int)=43∨((t[k].toNat:Nat):Int)=45) (hts:t.size≤9000) (hz:∃ n,wz=w0.drewN n) (hm:m=t.data.toList.length-1:=by rfl) :
  ∃ x y n,Value.string (t.extract 0 k)=Value.string x∧Value.string ⟨(Lib.trimPrefix (t.extract k t.size).data.toList [43]).toArray⟩=Value.string y∧Hid (lJ t.data.toList=(x.data.toList,y.data.toList))∧x.size≤9000∧y.size≤9000∧wz=w0.drewN n:=by
 obtain⟨n,rfl⟩:=hz
 have hd:(t.extract k t.size).data.toList=t.data.toList.drop k:=by
  rw[ByteArray.data_extract,Array.toList_extract,List.extract_eq_take_drop,Fu (by simp)]
 refine⟨_,_,n,rfl,rfl,Bm hs hm h0 h h1 (bO t k) (by rw[hd]),?_,?_,rfl⟩
 ·rw[←bA,bO,FN];omega
 ·rw[jU,hd]
  have:(Lib.trimPrefix (t.data.toList.drop k) [43]).length≤(t.data.toList.drop k).length:=by
   unfold Lib.trimPrefix;split
   ·rw[FC];omega
   ·exact Fm _
  rw[FC,bA] at this
  omega
theorem pZ {s:List UInt8}{t x y:ByteArray} (h1:Lib.hasSuffix s [105]=true) (h2:t.data.toList=Lib.trimSuffix s [105]) (h3:lJ t.data.toList=(x.data.toList,y.data.toList)) (h4:y.data.toList=[]∨y.data.toList=[45]) :
  Hid (fU s=(x.data.toList,(y++(⟨#[49]⟩:ByteArray)).data.toList)):=by
 unfold Hid fU
 rw[if_pos h1,←h2,h3]
 simp only[if_pos h4]
 simp
theorem vu {s:List UInt8}{t x y:ByteArray} (h1:Lib.hasSuffix s [105]=true) (h2:t.data.toList=Lib.trimSuffix s [105]) (h3:lJ t.data.toList=(x.data.toList,y.data.toList)) (h4:¬ y.data.toList=[]) (h5:¬ y.data.toList=[45]) :
  Hid (fU s=(x.data.toList,y.data.toList)):=by
 unfold Hid fU
 rw[if_pos h1,←h2,h3]
 simp only
 rw[if_neg (fun h=>h.elim h4 h5)]
theorem xA {y:ByteArray} (h:y.size≤9000):(y++(⟨#[49]⟩:ByteArray)).size≤10000:=by
 rw[ByteArray.size_append]
 have:(⟨#[49]⟩:ByteArray).size=1:=rfl
 omega
structure Tri (w:World) (k:Nat) (a b c:Value):Prop where
 lt:k<w.heap.size
 c0:w.cell? ⟨k,0,none⟩=some a
 c1:w.cell? ⟨k,1,none⟩=some b
 c2:w.cell? ⟨k,2,none⟩=some c
theorem Tri.below {w w':World}{k:Nat}{a b c:Value} (h:Tri w k a b c) (hb:Below w.heap.size w w'):Tri w' k a b c :=
 ⟨Fo h.lt hb.size,(hb.cell (p:=⟨k,0,none⟩) h.lt).trans h.c0,(hb.cell (p:=⟨k,1,none⟩) h.lt).trans h.c1,(hb.cell (p:=⟨k,2,none⟩) h.lt).trans h.c2⟩
theorem Tri.new (w:World) (a b c:Value) (T:TypeId):Tri (w.alloc (.cells #[a,b,c] T)) w.heap.size a b c :=
 ⟨by simp,aG w _ T 0 _ rfl,aG w _ T 1 _ rfl,aG w _ T 2 _ rfl⟩
theorem AV {w:World}{a b c d e f:Value}{p q:Rt} (h1:IsR w (.agg #[a,b,c]) p) (h2:IsR w (.agg #[d,e,f]) q):IsV w (.agg #[a,b,c,d,e,f]) ⟨p,q⟩:=⟨a,b,c,d,e,f,rfl,h1,h2⟩
theorem IsR.keep {w w':World}{v:Value}{r:Rt} (h:IsR w v r) (hk:∀ v l,IsU w v l→IsU w' v l):IsR w' v r:=by
 obtain⟨vn,vd,e,h1,h2,h3,h4⟩:=h
 exact⟨vn,vd,e,hk _ _ h1,hk _ _ h2,h3,h4⟩
theorem bigB (va:Value) (r:Rt) (w:World) (ha:IsR w va r) (hG:Gw w) :
  Calls Tryz.prog 188 #[va] w fun e w'=>∃ b:Bool,e=.returned (.bool b)∧Hid (cX r=b)∧Below w.heap.size w w':=by
 refine (qD va r w ha hG).mono ?_
 rintro e w' ⟨rfl,hb⟩
 exact⟨_,rfl,rfl,hb⟩
structure HSt (w0 w:World) (k k1 k2 k3:Nat) (a b c d e f:Value):Prop where
 g:GSt w0 w k
 t1:Tri w k1 a b c
 t2:Tri w k2 d e f
 v:bW w k3 a b c d e f
theorem HSt.below {w0 w w':World}{k k1 k2 k3:Nat}{a b c d e f:Value} (h:HSt w0 w k k1 k2 k3 a b c d e f) (hb:Below w.heap.size w w'):HSt w0 w' k k1 k2 k3 a b c d e f :=
 ⟨h.g.below hb,h.t1.below hb,h.t2.below hb,h.v.below hb⟩
theorem jQ (s:ByteArray) (w:World) (hG:Gw w) :
  Calls Tryz.prog 144 #[.string s] w (Cp s.data.toList w):=by
 have hb0:Below w.heap.size w (w.alloc (.cells #[.bool false,.slice none 0 0,.slice none 0 0,.bool false,.slice none 0 0,.slice none 0 0] 153)):=(Below.refl _ _).alloc (Fm _) _
 have S0:GSt w (w.alloc (.cells #[.bool false,.slice none 0 0,.slice none 0 0,.bool false,.slice none 0 0,.slice none 0 0] 153)) w.heap.size :=
  ⟨cS.new w _ _ _ _ _ _ (by intro z e;cases e) (by intro z e;cases e) (by intro z e;cases e) (by intro z e;cases e) (by intro z e;cases e) (by intro z e;cases e),hG.below hb0,hb0⟩
 clear hG hb0
 by_cases hlong:8008<s.size
 ·have hq:decide ((8008:Int)<(s.size:Int))=true:=by simp;omega
  have HL:=Ff hlong
  clear hlong
  go_enter Tryz.func144,Tryz.ntmps144
  have q0:=S0.own.cell 0;have q1:=S0.own.cell 1;have q2:=S0.own.cell 2;have q3:=S0.own.cell 3;have q4:=S0.own.cell 4;have q5:=S0.own.cell 5
  go_wp2_with fail
  refine bodyPost_ret (v:=.tuple #[ic,.bool false]) (by simp[results,Tryz.results144,go_sem,q0,q1,q2,q3,q4,q5,ic]) rfl ⟨_,_,rfl,Or.inr ⟨?_,rfl,rfl⟩,S0.bl⟩
  unfold gg;rw[if_pos (by rw[bA];exact HL.out)]
 ·have hq:decide ((8008:Int)<(s.size:Int))=false:=by simp;omega
  have hsz:s.size≤8008:=by omega
  clear hlong
  go_enter Tryz.func144,Tryz.ntmps144
  go_wp2_with fail
  generalize w.alloc (.cells #[.bool false,.slice none 0 0,.slice none 0 0,.bool false,.slice none 0 0,.slice none 0 0] 153)=w0 at S0 ⊢
  refine (uI _ _ w0 (by omega)).mono ?_
  rintro e w1 ⟨t,sx,rfl,hsx,ht,hts,rfl⟩
  go_upto_if 25 with fail
  go_cut [5,6,9] from 26 to 54 (fun s5 s6 s9 wx=>∃ (x y:ByteArray) (n:Nat),s5=.string x∧s6=.string y∧Hid (fU s.data.toList=(x.data.toList,y.data.toList))∧x.size≤10000∧y.size≤10000∧wx=w0.drewN n)
  case first =>
   cases sx
   ·have HS:=Ff hsx.out
    go_wp2
    go_meet
    exact⟨s,⟨#[48]⟩,0,rfl,rfl,by unfold Hid fU;rw[if_neg (by rw[HS.out];exact G6)],by omega,by decide,rfl⟩
   ·have HS:=Ff hsx.out
    go_wp2_with fail
    go_step3
    go_wp2_with fail
    go_step3
    go_upto_block 0 with fail
    go_cut [5,6,9] from 30 to 46 (fun s5 s6 s9 wx=>∃ (x y:ByteArray) (n:Nat),s5=.string x∧s6=.string y∧Hid (lJ t.data.toList=(x.data.toList,y.data.toList))∧x.size≤9000∧y.size≤9000∧wx=w0.drewN n)
    case first =>
     go_wp2_with fail
     go_loopg [5,6,9] (t.size-1) (fun g s5 s6 s9 wq=>∃ (z:Int) (n:Nat),s5=.string ⟨#[48]⟩∧s6=.string t∧s9=.int .i64 z∧(z=(g:Int)∨(g=0∧z=-1))∧g≤t.size-1∧Hid (dH t.data.toList (t.data.toList.length-1)=dH t.data.toList g)∧wq=w0.drewN n)
     case atStart=>exact⟨_,0,rfl,rfl,rfl,by omega,Fm _,by rw[bA];rfl,rfl⟩
     case round =>
      obtain⟨z,n,rfl,rfl,rfl,hz,hgt,hsig,rfl⟩:=hrel
      by_cases hg0:gk=0
      ·have hz0:z≤0:=by omega
       have HZ:=Ff hg0
       clear hg0 hz hgt
       go_wp2
       go_meet
       exact⟨_,_,n,rfl,rfl,by have h1:=hsig.out;rw[HZ.out] at h1;unfold Hid lJ;rw[h1];rfl,by decide,by omega,rfl⟩
      ·obtain rfl:z=(gk:Int):=by omega
       have hlt:gk<t.size:=by omega
       have hpos:0<gk:=by omega
       have hle:gk≤t.size:=by omega
       have hleI:(gk:Int)≤(t.size:Int):=by omega
       have hleD:decide ((gk:Int)≤(t.size:Int))=true:=by simp;omega
       clear hg0 hz
       by_cases hc:((t[gk].toNat:Nat):Int)=43
       ·have q1:(((t[gk].toNat:Nat):Int) == 43)=true:=by simp[hc]
        have HC:=Ff hc
        clear hc
        go_wp2_with fail
        go_quiet ((go_at_call 157;exact ol (mj _ _ _)))
        go_wp2
        go_meet
        exact pR hsig.out hpos hlt (Or.inl HC.out) (by omega) ⟨_,by first | rfl | rw[World.drewN_drewN]⟩
       ·have q1:(((t[gk].toNat:Nat):Int) == 43)=false:=by simp[hc]
        have HC:=Ff hc
        clear hc
        by_cases hc:((t[gk].toNat:Nat):Int)=45
        ·have q2:(((t[gk].toNat:Nat):Int) == 45)=true:=by simp[hc]
         have HC2:=Ff hc
         clear hc
         go_wp2_with fail
         go_quiet ((go_at_call 157;exact ol (mj _ _ _)))
         go_wp2
         go_meet
         exact pR hsig.out hpos hlt (Or.inr HC2.out) (by omega) ⟨_,by first | rfl | rw[World.drewN_drewN]⟩
        ·have q2:(((t[gk].toNat:Nat):Int) == 45)=false:=by simp[hc]
         have HC2:=Ff hc
         clear hc
         go_wp2_with fail
         go_roundg (gk-1)
         case measure=>omega
         case rel=>exact⟨_,n,rfl,rfl,rfl,by omega,by omega,by have h1:=hsig.out;unfold Hid;rw[h1];exact Bk hpos hlt HC.out HC2.out,rfl⟩
    case rest =>
     obtain⟨x,y,n,rfl,rfl,hpre,hxs,hys,rfl⟩:=hcut
     by_cases h1:y.toList=[]
     ·have q1:(y.toList == [])=true:=by rw[h1];rfl
      have h1':=Ff h1
      clear h1
      go_wp2
      rw[Exit.noGoto_normal]
      go_wp2
      go_meet
      exact⟨_,_,n,rfl,rfl,pZ HS.out ht.out hpre.out (Or.inl (by rw[←av];exact h1'.out)),by omega,xA hys,rfl⟩
     ·have q1:(y.toList == [])=false:=by simpa using h1
      have h1':=Ff h1
      clear h1
      by_cases h2:y.toList=[45]
      ·have q2:(y.toList == [45])=true:=by rw[h2];rfl
       have h2':=Ff h2
       clear h2
       go_wp2
       rw[Exit.noGoto_normal]
       go_wp2
       go_meet
       exact⟨_,_,n,rfl,rfl,pZ HS.out ht.out hpre.out (Or.inr (by rw[←av];exact h2'.out)),by omega,xA hys,rfl⟩
      ·have q2:(y.toList == [45])=false:=by simpa using h2
       have h2':=Ff h2
       clear h2
       go_wp2
       rw[Exit.noGoto_normal]
       go_wp2
       go_meet
       exact⟨_,_,n,rfl,rfl,vu HS.out ht.out hpre.out (fun e=>h1'.out (by rw[av];exact e)) (fun e=>h2'.out (by rw[av];exact e)),by omega,by omega,rfl⟩
  case rest =>
   obtain⟨x,y,n,rfl,rfl,hp,hxs,hys,rfl⟩:=hcut
   have S1:GSt w (w0.drewN n) w.heap.size:=S0.below (below_drewN (Below.refl _ _) n)
   clear S0
   go_wp2_with fail
   refine (n6 x _ (by omega) S1.hG).mono ?_
   rintro e w2 ⟨v,ok,rfl,hcase,hb2⟩
   have S2:=S1.below hb2
   clear S1 hb2
   rcases hcase with ⟨p,hpx,rfl,hR⟩ | ⟨hpx,rfl,rfl⟩
   ·have HPX:=Ff hpx
    clear hpx
    have hR':=hR
    obtain⟨vn,vd,rfl,hn,hd,_,_⟩:=hR'
    obtain⟨pn,cn,rfl,_,_,_⟩:=hn
    obtain⟨pd,cd,rfl,_,_,_⟩:=hd
    have hb3:Below w2.heap.size w2 (w2.alloc (.cells #[.bool p.minus,.slice pn (aq BB p.n).length cn,.slice pd (aq BB p.d).length cd] 151)):=(Below.refl _ _).alloc (Fm _) _
    have S3:=S2.below hb3
    have T3:=Tri.new w2 (.bool p.minus) (.slice pn (aq BB p.n).length cn) (.slice pd (aq BB p.d).length cd) 151
    have HR:=Ff (hR.below hb3)
    clear hb3 S2 hR
    go_wp2_with fail
    generalize w2.alloc (.cells #[.bool p.minus,.slice pn (aq BB p.n).length cn,.slice pd (aq BB p.d).length cd] 151)=w3 at S3 T3 HR ⊢
    refine (n6 y _ (by omega) S3.hG).mono ?_
    rintro e w4 ⟨v,ok,rfl,hcase,hb4⟩
    have S4:=S3.below hb4
    have T4:=T3.below hb4
    have HR4:=Ff (HR.out.below hb4)
    clear S3 T3 HR hb4
    rcases hcase with ⟨q,hqy,rfl,hQ⟩ | ⟨hqy,rfl,rfl⟩
    ·have HQY:=Ff hqy
     clear hqy
     have hQ':=hQ
     obtain⟨vn,vd,rfl,hn,hd,_,_⟩:=hQ'
     obtain⟨qn,dn,rfl,_,_,_⟩:=hn
     obtain⟨qd,dd,rfl,_,_,_⟩:=hd
     have hb5:Below w4.heap.size w4 (w4.alloc (.cells #[.bool q.minus,.slice qn (aq BB q.n).length dn,.slice qd (aq BB q.d).length dd] 151)):=(Below.refl _ _).alloc (Fm _) _
     have hb6:Below (w4.alloc (.cells #[.bool q.minus,.slice qn (aq BB q.n).length dn,.slice qd (aq BB q.d).length dd] 151)).heap.size (w4.alloc (.cells #[.bool q.minus,.slice qn (aq BB q.n).length dn,.slice qd (aq BB q.d).length dd] 151)) ((w4.alloc (.cells #[.bool q.minus,.slice qn (aq BB q.n).length dn,.slice qd (aq BB q.d).length dd] 151)).alloc (.cells #[.bool p.minus,.slice pn (aq BB p.n).length cn,.slice pd (aq BB p.d).length cd,.bool q.minus,.slice qn (aq BB q.n).length dn,.slice qd (aq BB q.d).length dd] 153)):=(Below.refl _ _).alloc (Fm _) _
     have S5:=S4.below hb5
     have T5:=T4.below hb5
     have U5:=Tri.new w4 (.bool q.minus) (.slice qn (aq BB q.n).length dn) (.slice qd (aq BB q.d).length dd) 151
     have c0:=T5.c0;have c1:=T5.c1;have c2:=T5.c2;have d0:=U5.c0;have d1:=U5.c1;have d2:=U5.c2
     have S6:=S5.below hb6
     have T6:=T5.below hb6
     have U6:=U5.below hb6
     have V6:=bW.new (w4.alloc (.cells #[.bool q.minus,.slice qn (aq BB q.n).length dn,.slice qd (aq BB q.d).length dd] 151)) (.bool p.minus) (.slice pn (aq BB p.n).length cn) (.slice pd (aq BB p.d).length cd) (.bool q.minus) (.slice qn (aq BB q.n).length dn) (.slice qd (aq BB q.d).length dd) 153
     have e0:=V6.c0;have e1:=V6.c1;have e2:=V6.c2;have e3:=V6.c3;have e4:=V6.c4;have e5:=V6.c5
     have HP6:=Ff ((HR4.out.below hb5).below hb6)
     have HQ6:=Ff ((hQ.below hb5).below hb6)
     clear hb5 hb6 hQ S4 T4 S5 T5 U5 HR4
     go_wp2_with fail
     clear c0 c1 c2 d0 d1 d2 e0 e1 e2 e3 e4 e5
     have HS6:HSt w ((w4.alloc (.cells #[.bool q.minus,.slice qn (aq BB q.n).length dn,.slice qd (aq BB q.d).length dd] 151)).alloc (.cells #[.bool p.minus,.slice pn (aq BB p.n).length cn,.slice pd (aq BB p.d).length cd,.bool q.minus,.slice qn (aq BB q.n).length dn,.slice qd (aq BB q.d).length dd] 153)) w.heap.size w2.heap.size w4.heap.size (w4.heap.size+1) _ _ _ _ _ _:=⟨S6,T6,U6,by have h:=V6;rw[show (w4.alloc (.cells #[.bool q.minus,.slice qn (aq BB q.n).length dn,.slice qd (aq BB q.d).length dd] 151)).heap.size=w4.heap.size+1 from by simp] at h;exact h⟩
     clear S6 T6 U6 V6
     generalize (w4.alloc (.cells #[.bool q.minus,.slice qn (aq BB q.n).length dn,.slice qd (aq BB q.d).length dd] 151)).alloc (.cells #[.bool p.minus,.slice pn (aq BB p.n).length cn,.slice pd (aq BB p.d).length cd,.bool q.minus,.slice qn (aq BB q.n).length dn,.slice qd (aq BB q.d).length dd] 153)=w6 at HS6 HP6 HQ6 ⊢
     refine (qw _ ⟨p,q⟩ _ (AV HP6.out HQ6.out) (l_ HPX.out) (l_ HQY.out) HS6.g.hG).mono ?_
     rintro e w7 ⟨tt,rfl,htt,htts,hb7⟩
     have S7:=HS6.below hb7
     have HP7:=Ff (HP6.out.below hb7)
     have HQ7:=Ff (HQ6.out.below hb7)
     clear HS6 HP6 HQ6 hb7
     have c0:=S7.t1.c0;have c1:=S7.t1.c1;have c2:=S7.t1.c2;have d0:=S7.t2.c0;have d1:=S7.t2.c1;have d2:=S7.t2.c2
     by_cases heq:tt.toList=s.toList
     ·have z1:(tt.toList == s.toList)=true:=by simp[heq]
      have z2:(tt.toList != s.toList)=false:=by simp[heq]
      have z3:decide (tt.toList=s.toList)=true:=by simp[heq]
      have HEQ:=Ff heq
      clear heq
      go_wp2_with fail
      refine (bigB _ p _ (by exact HP7.out) S7.g.hG).mono ?_
      rintro e w8 ⟨bp,rfl,hbp,hb8⟩
      have S8:=S7.below hb8
      have HP8:=Ff (HP7.out.below hb8)
      have HQ8:=Ff (HQ7.out.below hb8)
      clear S7 HP7 HQ7 hb8 c0 c1 c2 d0 d1 d2
      have d0:=S8.t2.c0;have d1:=S8.t2.c1;have d2:=S8.t2.c2
      cases bp
      ·have HBP:=Ff hbp.out
       clear hbp
       go_wp2_with fail
       refine (bigB _ q _ (by exact HQ8.out) S8.g.hG).mono ?_
       rintro e w9 ⟨bq,rfl,hbq,hb9⟩
       have S9:=S8.below hb9
       have HP9:=Ff (HP8.out.below hb9)
       have HQ9:=Ff (HQ8.out.below hb9)
       clear S8 HP8 HQ8 hb9 d0 d1 d2
       cases bq
       ·have HBQ:=Ff hbq.out
        clear hbq
        have e0:=S9.v.c0;have e1:=S9.v.c1;have e2:=S9.v.c2;have e3:=S9.v.c3;have e4:=S9.v.c4;have e5:=S9.v.c5
        have K0:=S9.g.own.cell 0;have K1:=S9.g.own.cell 1;have K2:=S9.g.own.cell 2;have K3:=S9.g.own.cell 3;have K4:=S9.g.own.cell 4;have K5:=S9.g.own.cell 5
        have F0:=S9.g.own.fr 0;have F1:=S9.g.own.fr 1;have F2:=S9.g.own.fr 2;have F3:=S9.g.own.fr 3;have F4:=S9.g.own.fr 4;have F5:=S9.g.own.fr 5
        have PH:=Ff (S9.g.own.put (a':=.bool p.minus) (b':=.slice pn (aq BB p.n).length cn) (c':=.slice pd (aq BB p.d).length cd) (d':=.bool q.minus) (e':=.slice qn (aq BB q.n).length dn) (f':=.slice qd (aq BB q.d).length dd) (by intro z e;cases e) (by intro z e;cases e) (by intro z e;cases e) (by intro z e;cases e) (by intro z e;cases e) (by intro z e;cases e))
        have HBX:=Ff S9.g.bl
        go_wp2
        have q0:=PH.out.1.cell 0;have q1:=PH.out.1.cell 1;have q2:=PH.out.1.cell 2;have q3:=PH.out.1.cell 3;have q4:=PH.out.1.cell 4;have q5:=PH.out.1.cell 5
        unfold d_ at q0 q1 q2 q3 q4 q5
        refine bodyPost_ret (v:=.tuple #[.agg #[.bool p.minus,.slice pn (aq BB p.n).length cn,.slice pd (aq BB p.d).length cd,.bool q.minus,.slice qn (aq BB q.n).length dn,.slice qd (aq BB q.d).length dd],.bool true]) (by simp[results,Tryz.results144,go_sem,q0,q1,q2,q3,q4,q5]) rfl ⟨_,_,rfl,Or.inl ⟨Vl.mk p q,?_,rfl,AV (IsR.keep HP9.out PH.out.2.1) (IsR.keep HQ9.out PH.out.2.1)⟩,PH.out.2.2 w HBX.out (Fm _)⟩
        unfold gg
        rw[if_neg (by rw[bA];omega),hp.out]
        simp only[HPX.out,HQY.out]
        rw[if_pos ⟨by rw[←htt.out,←av,←av];exact HEQ.out,HBP.out,HBQ.out⟩]
       ·have HBQ:=Ff hbq.out
        clear hbq
        have K0:=S9.g.own.cell 0;have K1:=S9.g.own.cell 1;have K2:=S9.g.own.cell 2;have K3:=S9.g.own.cell 3;have K4:=S9.g.own.cell 4;have K5:=S9.g.own.cell 5
        have F0:=S9.g.own.fr 0;have F1:=S9.g.own.fr 1;have F2:=S9.g.own.fr 2;have F3:=S9.g.own.fr 3;have F4:=S9.g.own.fr 4;have F5:=S9.g.own.fr 5
        have PH:=Ff (S9.g.own.put (a':=.bool false) (b':=.slice none 0 0) (c':=.slice none 0 0) (d':=.bool false) (e':=.slice none 0 0) (f':=.slice none 0 0) (by intro z e;cases e) (by intro z e;cases e) (by intro z e;cases e) (by intro z e;cases e) (by intro z e;cases e) (by intro z e;cases e))
        have HBX:=Ff S9.g.bl
        go_wp2
        have q0:=PH.out.1.cell 0;have q1:=PH.out.1.cell 1;have q2:=PH.out.1.cell 2;have q3:=PH.out.1.cell 3;have q4:=PH.out.1.cell 4;have q5:=PH.out.1.cell 5
        unfold d_ at q0 q1 q2 q3 q4 q5
        refine bodyPost_ret (v:=.tuple #[ic,.bool false]) (by simp[results,Tryz.results144,go_sem,q0,q1,q2,q3,q4,q5,ic]) rfl ⟨_,_,rfl,Or.inr ⟨?_,rfl,rfl⟩,PH.out.2.2 w HBX.out (Fm _)⟩
        unfold gg
        rw[if_neg (by rw[bA];omega),hp.out]
        simp only[HPX.out,HQY.out]
        rw[if_neg (fun h=>by rw[HBQ.out] at h;exact Bool.noConfusion h.2.2)]
      ·have HBP:=Ff hbp.out
       clear hbp
       have K0:=S8.g.own.cell 0;have K1:=S8.g.own.cell 1;have K2:=S8.g.own.cell 2;have K3:=S8.g.own.cell 3;have K4:=S8.g.own.cell 4;have K5:=S8.g.own.cell 5
       have F0:=S8.g.own.fr 0;have F1:=S8.g.own.fr 1;have F2:=S8.g.own.fr 2;have F3:=S8.g.own.fr 3;have F4:=S8.g.own.fr 4;have F5:=S8.g.own.fr 5
       have PH:=Ff (S8.g.own.put (a':=.bool false) (b':=.slice none 0 0) (c':=.slice none 0 0) (d':=.bool false) (e':=.slice none 0 0) (f':=.slice none 0 0) (by intro z e;cases e) (by intro z e;cases e) (by intro z e;cases e) (by intro z e;cases e) (by intro z e;cases e) (by intro z e;cases e))
       have HBX:=Ff S8.g.bl
       go_wp2
       have q0:=PH.out.1.cell 0;have q1:=PH.out.1.cell 1;have q2:=PH.out.1.cell 2;have q3:=PH.out.1.cell 3;have q4:=PH.out.1.cell 4;have q5:=PH.out.1.cell 5
       unfold d_ at q0 q1 q2 q3 q4 q5
       refine bodyPost_ret (v:=.tuple #[ic,.bool false]) (by simp[results,Tryz.results144,go_sem,q0,q1,q2,q3,q4,q5,ic]) rfl ⟨_,_,rfl,Or.inr ⟨?_,rfl,rfl⟩,PH.out.2.2 w HBX.out (Fm _)⟩
       unfold gg
       rw[if_neg (by rw[bA];omega),hp.out]
       simp only[HPX.out,HQY.out]
       rw[if_neg (fun h=>by rw[HBP.out] at h;exact Bool.noConfusion h.2.1)]
     ·have z1:(tt.toList == s.toList)=false:=by simp[heq]
      have z2:(tt.toList != s.toList)=true:=by simp[heq]
      have z3:decide (tt.toList=s.toList)=false:=by simp[heq]
      have HEQ:=Ff heq
      clear heq
      have K0:=S7.g.own.cell 0;have K1:=S7.g.own.cell 1;have K2:=S7.g.own.cell 2;have K3:=S7.g.own.cell 3;have K4:=S7.g.own.cell 4;have K5:=S7.g.own.cell 5
      have F0:=S7.g.own.fr 0;have F1:=S7.g.own.fr 1;have F2:=S7.g.own.fr 2;have F3:=S7.g.own.fr 3;have F4:=S7.g.own.fr 4;have F5:=S7.g.own.fr 5
      have PH:=Ff (S7.g.own.put (a':=.bool false) (b':=.slice none 0 0) (c':=.slice none 0 0) (d':=.bool false) (e':=.slice none 0 0) (f':=.slice none 0 0) (by intro z e;cases e) (by intro z e;cases e) (by intro z e;cases e) (by intro z e;cases e) (by intro z e;cases e) (by intro z e;cases e))
      have HBX:=Ff S7.g.bl
      go_wp2
      have q0:=PH.out.1.cell 0;have q1:=PH.out.1.cell 1;have q2:=PH.out.1.cell 2;have q3:=PH.out.1.cell 3;have q4:=PH.out.1.cell 4;have q5:=PH.out.1.cell 5
      unfold d_ at q0 q1 q2 q3 q4 q5
      refine bodyPost_ret (v:=.tuple #[ic,.bool false]) (by simp[results,Tryz.results144,go_sem,q0,q1,q2,q3,q4,q5,ic]) rfl ⟨_,_,rfl,Or.inr ⟨?_,rfl,rfl⟩,PH.out.2.2 w HBX.out (Fm _)⟩
      unfold gg
      rw[if_neg (by rw[bA];omega),hp.out]
      simp only[HPX.out,HQY.out]
      rw[if_neg (fun h=>HEQ.out (by rw[av,av,htt.out];exact h.1))]
    ·have HQY:=Ff hqy
     clear hqy
     have hb5:Below w4.heap.size w4 (w4.alloc (.cells #[.bool false,.slice none 0 0,.slice none 0 0] 151)):=(Below.refl _ _).alloc (Fm _) _
     have hb6:Below (w4.alloc (.cells #[.bool false,.slice none 0 0,.slice none 0 0] 151)).heap.size (w4.alloc (.cells #[.bool false,.slice none 0 0,.slice none 0 0] 151)) ((w4.alloc (.cells #[.bool false,.slice none 0 0,.slice none 0 0] 151)).alloc (.cells #[.bool p.minus,.slice pn (aq BB p.n).length cn,.slice pd (aq BB p.d).length cd,.bool false,.slice none 0 0,.slice none 0 0] 153)):=(Below.refl _ _).alloc (Fm _) _
     have S5:=S4.below hb5
     have T5:=T4.below hb5
     have U5:=Tri.new w4 (.bool false) (.slice none 0 0) (.slice none 0 0) 151
     have c0:=T5.c0;have c1:=T5.c1;have c2:=T5.c2;have d0:=U5.c0;have d1:=U5.c1;have d2:=U5.c2
     have S6:=S5.below hb6
     have T6:=T5.below hb6
     have U6:=U5.below hb6
     have V6:=bW.new (w4.alloc (.cells #[.bool false,.slice none 0 0,.slice none 0 0] 151)) (.bool p.minus) (.slice pn (aq BB p.n).length cn) (.slice pd (aq BB p.d).length cd) (.bool false) (.slice none 0 0) (.slice none 0 0) 153
     have e0:=V6.c0;have e1:=V6.c1;have e2:=V6.c2;have e3:=V6.c3;have e4:=V6.c4;have e5:=V6.c5
     clear hb5 hb6 S4 T4 S5 T5 U5 T6 U6 V6
     have K0:=S6.own.cell 0;have K1:=S6.own.cell 1;have K2:=S6.own.cell 2;have K3:=S6.own.cell 3;have K4:=S6.own.cell 4;have K5:=S6.own.cell 5
     have F0:=S6.own.fr 0;have F1:=S6.own.fr 1;have F2:=S6.own.fr 2;have F3:=S6.own.fr 3;have F4:=S6.own.fr 4;have F5:=S6.own.fr 5
     have PH:=Ff (S6.own.put (a':=.bool false) (b':=.slice none 0 0) (c':=.slice none 0 0) (d':=.bool false) (e':=.slice none 0 0) (f':=.slice none 0 0) (by intro z e;cases e) (by intro z e;cases e) (by intro z e;cases e) (by intro z e;cases e) (by intro z e;cases e) (by intro z e;cases e))
     have HBX:=Ff S6.bl
     go_wp2
     have q0:=PH.out.1.cell 0;have q1:=PH.out.1.cell 1;have q2:=PH.out.1.cell 2;have q3:=PH.out.1.cell 3;have q4:=PH.out.1.cell 4;have q5:=PH.out.1.cell 5
     unfold d_ at q0 q1 q2 q3 q4 q5
     refine bodyPost_ret (v:=.tuple #[ic,.bool false]) (by simp[results,Tryz.results144,go_sem,q0,q1,q2,q3,q4,q5,ic]) rfl ⟨_,_,rfl,Or.inr ⟨?_,rfl,rfl⟩,PH.out.2.2 w HBX.out (Fm _)⟩
     unfold gg
     rw[if_neg (by rw[bA];omega),hp.out]
     simp only[HPX.out,HQY.out]
   ·have HPX:=Ff hpx
    clear hpx
    have hb3:Below w2.heap.size w2 (w2.alloc (.cells #[.bool false,.slice none 0 0,.slice none 0 0] 151)):=(Below.refl _ _).alloc (Fm _) _
    have S3:=S2.below hb3
    clear hb3 S2
    have K0:=S3.own.cell 0;have K1:=S3.own.cell 1;have K2:=S3.own.cell 2;have K3:=S3.own.cell 3;have K4:=S3.own.cell 4;have K5:=S3.own.cell 5
    have F0:=S3.own.fr 0;have F1:=S3.own.fr 1;have F2:=S3.own.fr 2;have F3:=S3.own.fr 3;have F4:=S3.own.fr 4;have F5:=S3.own.fr 5
    have PH:=Ff (S3.own.put (a':=.bool false) (b':=.slice none 0 0) (c':=.slice none 0 0) (d':=.bool false) (e':=.slice none 0 0) (f':=.slice none 0 0) (by intro z e;cases e) (by intro z e;cases e) (by intro z e;cases e) (by intro z e;cases e) (by intro z e;cases e) (by intro z e;cases e))
    have HBX:=Ff S3.bl
    go_wp2
    have q0:=PH.out.1.cell 0;have q1:=PH.out.1.cell 1;have q2:=PH.out.1.cell 2;have q3:=PH.out.1.cell 3;have q4:=PH.out.1.cell 4;have q5:=PH.out.1.cell 5
    unfold d_ at q0 q1 q2 q3 q4 q5
    refine bodyPost_ret (v:=.tuple #[ic,.bool false]) (by simp[results,Tryz.results144,go_sem,q0,q1,q2,q3,q4,q5,ic]) rfl ⟨_,_,rfl,Or.inr ⟨?_,rfl,rfl⟩,PH.out.2.2 w HBX.out (Fm _)⟩
    unfold gg
    rw[if_neg (by rw[bA];omega),hp.out]
    simp only[HPX.out]
structure Gx (w:World):Prop where
 g:Gw w
 e0:∃ tp p,w.cell? ⟨0,0,none⟩=some (.iface tp p)
 e1:∃ tp p,w.cell? ⟨1,0,none⟩=some (.iface tp p)
theorem Gx.below {w w':World} (h:Gx w) (hb:Below w.heap.size w w'):Gx w':=by
 refine⟨h.g.below hb,?_,?_⟩
 ·obtain⟨tp,p,e⟩:=h.e0
  exact⟨tp,p,(hb.cell (Fo (by decide) h.g.sz)).trans e⟩
 ·obtain⟨tp,p,e⟩:=h.e1
  exact⟨tp,p,(hb.cell (Fo (by decide) h.g.sz)).trans e⟩
def fP (s:List UInt8):Bool:=match gg s with | some z=>decide (z.y.n=0) | none=>false
theorem wW (s:ByteArray) (w:World) (hG:Gw w) :
  Calls Tryz.prog 98 #[.string s] w fun e w'=>∃ b:Bool,e=.returned (.bool b)∧Hid (fP s.data.toList=b)∧Below w.heap.size w w':=by
 go_enter Tryz.func98,Tryz.ntmps98
 go_wp2_with fail
 refine (jQ s w hG).mono ?_
 rintro e w1 ⟨v,ok,rfl,hcase,hb1⟩
 rcases hcase with ⟨z,hz,rfl,hv⟩ | ⟨hz,rfl,rfl⟩
 ·have HZ:=Ff hz
  have HB1:=Ff hb1
  clear hz
  have hv':=hv
  obtain⟨a,b,c,d,e,f,rfl,hx,hy⟩:=hv'
  obtain⟨xn,xd,ex,hxn,hxd,_,_⟩:=hx
  obtain⟨yn,yd,ey,hyn,hyd,_,_⟩:=hy
  simp only[Value.agg.injEq,Array.mk.injEq,List.cons.injEq,and_true] at ex ey
  obtain⟨rfl,rfl,rfl⟩:=ex
  obtain⟨rfl,rfl,rfl⟩:=ey
  obtain⟨p1,c1,rfl,_,_,_⟩:=hxn
  obtain⟨p2,c2,rfl,_,_,_⟩:=hxd
  obtain⟨p3,c3,rfl,_,_,_⟩:=hyn
  obtain⟨p4,c4,rfl,_,_,_⟩:=hyd
  have hb2:Below w1.heap.size w1 (w1.alloc (.cells #[.bool z.x.minus,.slice p1 (aq BB z.x.n).length c1,.slice p2 (aq BB z.x.d).length c2,.bool z.y.minus,.slice p3 (aq BB z.y.n).length c3,.slice p4 (aq BB z.y.d).length c4] 153)):=(Below.refl _ _).alloc (Fm _) _
  have HV:=Ff (hv.below hb2)
  have HB2:=Ff (hb1.trans (hb2.mono hb1.size))
  clear hv hb1 hb2
  go_wp2_with fail
  refine (eG _ z _ (by exact HV.out)).mono ?_
  rintro e w3 ⟨rfl,hb3⟩
  go_wp2
  go_ret
  exact⟨_,rfl,by unfold Hid fP;rw[HZ.out],HB2.out.trans (hb3.mono HB2.out.size)⟩
 ·have HZ:=Ff hz
  clear hz
  unfold ic
  go_wp2
  go_ret
  exact⟨_,rfl,by unfold Hid fP;rw[HZ.out],hb1.trans (((Below.refl _ _).alloc (Fm _) _).mono hb1.size)⟩
def iy (s:List UInt8):Bool:=match Lib.atoiAll s with | .ok v=>decide (v≤4096) | _=>false
theorem ES (s:ByteArray) (w:World) (hs:s.size<1000000) (hG:Gx w) :
  Calls Tryz.prog 158 #[.string s] w fun e w'=>∃ (v:Int) (ev:Value),e=.returned (.tuple #[.int .i64 v,ev]) ∧
   ((∃ a b,ev=.iface a b∧Hid (iy s.data.toList=false))∨(ev=.nilIface∧Hid (iy s.data.toList=decide (v≤4096))))∧Below w.heap.size w w':=by
 rcases h:Lib.atoiAll s.data.toList with v | _ | _
 ·refine (Tryz.strconv_Atoi_ok s (by omega) v h w).mono ?_
  rintro e w' ⟨rfl,hw⟩
  refine⟨_,_,rfl,Or.inr ⟨rfl,by unfold Hid iy;rw[h]⟩,?_⟩
  rcases hw with rfl | ⟨t,rfl⟩
  ·exact Below.refl _ _
  ·exact Joins.below_bytesWorld _ _ _ _ (Fm _)
 ·obtain⟨tp,p,hv⟩:=hG.e0
  refine (Any.strconv_Atoi_syntax Tryz.laysC172 s (by omega) h _ w hv (Or.inr ⟨_,_,rfl⟩)).mono ?_
  rintro e w' ⟨N,rfl,_,_,hb⟩
  exact⟨_,_,rfl,Or.inl ⟨_,_,rfl,by unfold Hid iy;rw[h]⟩,hb⟩
 ·obtain⟨tp,p,hv⟩:=hG.e1
  refine (Tryz.strconv_Atoi_range s (by omega) h _ w hv (Or.inr ⟨_,_,rfl⟩)).mono ?_
  rintro e w' ⟨N,rfl,_,_,hb⟩
  exact⟨_,_,rfl,Or.inl ⟨_,_,rfl,by unfold Hid iy;rw[h]⟩,hb⟩
def fx (t:ByteArray):List ByteArray:=Lib.splitB ⟨#[47]⟩ 0 (Lib.countB t ⟨#[47]⟩) t
def gP (s:List UInt8):Bool:=(fx ⟨(Lib.trimPrefix s [45]).toArray⟩).all fun p=>iy p.data.toList
theorem tS (sep:ByteArray):∀ (k:Nat) (s p:ByteArray),p∈Lib.splitB sep 0 k s→p.size≤s.size:=by
 intro k
 induction k with
 | zero=>intro s p h;simp[Lib.splitB] at h;subst h;exact Fm _
 | succ k ih =>
  intro s p h
  unfold Lib.splitB at h
  split at h
  ·simp at h;subst h;exact Fm _
  ·rcases Gp.1 h with rfl | h
   ·rw[ByteArray.size_extract];omega
   ·have:=ih _ _ h
    rw[ByteArray.size_extract] at this;omega
structure kC (w:World) (k:Nat) (l:List ByteArray):Prop where
 lt:k<w.heap.size
 at_:∀ i (h:i<l.length),w.cell? ⟨k,i,none⟩=some (.string l[i])
theorem kC.below {w w':World}{k:Nat}{l:List ByteArray} (h:kC w k l) (hb:Below w.heap.size w w'):kC w' k l :=
 ⟨Fo h.lt hb.size,fun i hi=>(hb.cell (p:=⟨k,i,none⟩) h.lt).trans (h.at_ i hi)⟩
theorem EC (t:ByteArray) (w:World) (hs:t.size<1000000) (hG:Gx w) :
  Calls Tryz.prog 156 #[.string t,.string ⟨#[47]⟩] w fun e w'=>∃ (k n:Nat),e=.returned (.slice (some ⟨k,0,none⟩) n n)∧n=(fx t).length∧0<n∧n≤1000000∧kC w' k (fx t)∧Below w.heap.size w w':=by
 obtain⟨m,hm⟩:=hG.g.ml
 refine (Tryz.strings_Split t ⟨#[47]⟩ m w (by omega) hm (by decide)).mono ?_
 rintro e w' ⟨rfl,rfl⟩
 have hl:(fx t).length=Lib.countB t ⟨#[47]⟩+1:=Lib.splitB_all _ (by decide) _ _ _ rfl
 refine⟨_,_,rfl,hl.symm,by omega,?_,⟨by simp,fun i hi=>?_⟩,(Below.refl _ _).alloc (Fm _) _⟩
 ·have:=Lib.countB_le ⟨#[47]⟩ (by decide) t.size t (Fm _)
  omega
 ·exact aG w _ 9 i _ (by rw[Iq,Ho];show Option.map Value.string (fx t)[i]?=_;rw[FB hi];rfl)
theorem jj {l:List ByteArray}{i:Nat} (h:i<l.length) (f:ByteArray→Bool):(l.take (i+1)).all f=((l.take i).all f&&f l[i]):=by
 have e:l.take (i+1)=l.take i++[l[i]]:=(Fz h).symm
 rw[e,GR];simp
theorem m7 {l:List ByteArray}{i:Nat} (h:i<l.length) (f:ByteArray→Bool) (hf:f l[i]=false):l.all f=false:=by
 rw[Hm]
 exact⟨l[i],FJ h,by rw[hf];exact G6⟩
theorem vS (s:ByteArray) (w:World) (hs:s.size<100000) (hG:Gx w) :
  Calls Tryz.prog 107 #[.string s] w fun e w'=>∃ b:Bool,e=.returned (.bool b)∧Hid (gP s.data.toList=b)∧Below w.heap.size w w':=by
 go_enter Tryz.func107,Tryz.ntmps107
 go_wp2_with fail
 refine (t8 _ _ w).mono ?_
 rintro e w1 ⟨t,rfl,ht,hts,rfl⟩
 go_wp2_with fail
 refine (EC t w (by omega) hG).mono ?_
 rintro e w1 ⟨k,n,rfl,hn,hn0,hn1,hW,hb1⟩
 have HN:=Ff hn
 have hG1:=hG.below hb1
 clear hn hG
 go_wp2_with fail
 go_loopw [11] (fun s11 wr=>∃ i:Nat,s11=.int .i64 i∧i≤n∧Gx wr∧kC wr k (fx t)∧Below w.heap.size w wr∧Hid (((fx t).take i).all (fun p=>iy p.data.toList)=true)) (fun s11 _=>n-(intOf s11).toNat)
 case atStart=>exact⟨0,rfl,by omega,hG1,hW,hb1,rfl⟩
 case round =>
  clear hG1 hW hb1
  obtain⟨i,rfl,hin,hGr,hWr,hbr,hall⟩:=hrel
  by_cases hi:i<n
  ·have hil:i<(fx t).length:=by rw[←HN.out];exact hi
   have hc:=hWr.at_ i hil
   have hps:(fx t)[i].size≤t.size:=tS _ _ _ _ (FJ hil)
   obtain⟨p,hp⟩:∃ p,p=(fx t)[i]:=⟨_,rfl⟩
   rw[←hp] at hc hps
   have HP:=Ff hp
   clear hp
   go_wp2_with fail
   refine (ES p wr (by omega) hGr).mono ?_
   rintro e w2 ⟨v,ev,rfl,hcase,hb2⟩
   have hb3:=hbr.trans (hb2.mono hbr.size)
   have hG2:=hGr.below hb2
   have hW2:=hWr.below hb2
   clear hb2 hGr hWr hbr hc
   rcases hcase with ⟨a,b,rfl,hpart⟩ | ⟨rfl,hpart⟩
   ·go_wp2
    go_ret
    exact⟨false,rfl,by unfold Hid gP;rw[←ht.out];exact m7 hil _ (by rw[←HP.out];exact hpart.out),hb3⟩
   ·by_cases hv:(4096:Int)<v
    ·have hd:decide ((4096:Int)<v)=true:=by simp;omega
     have HV:=Ff hv
     clear hv
     go_wp2
     go_ret
     exact⟨false,rfl,by unfold Hid gP;rw[←ht.out];exact m7 hil _ (by rw[←HP.out,hpart.out];simp;exact HV.out),hb3⟩
    ·have hd:decide ((4096:Int)<v)=false:=by simp;omega
     have HV:=Ff hv
     clear hv
     go_wp2
     go_roundw
     case rel=>exact⟨i+1,by go_num,by omega,hG2,hW2,hb3,by unfold Hid;rw[jj hil,hall.out,←HP.out,hpart.out];simp;have:=HV.out;omega⟩
     case measure=>simp[intOf];omega
  ·have hin':i=n:=by omega
   subst hin'
   clear hi
   go_wp2
   go_ret
   exact⟨true,rfl,by have h:=hall.out;rw[HN.out,FO] at h;unfold Hid gP;rw[←ht.out];exact h,hbr⟩
def bX (s:List UInt8):Bool:=fP s&&gP s
theorem ou {s:List UInt8} (h:fP s=true):s.length≤8008:=by
 unfold fP gg at h
 by_cases hl:8008<s.length
 ·rw[if_pos hl] at h;exact absurd h G6
 ·omega
theorem se (s:ByteArray) (w:World) (hG:Gx w) :
  Calls Tryz.prog 52 #[.string s] w fun e w'=>∃ b:Bool,e=.returned (.bool b)∧Hid (bX s.data.toList=b)∧Below w.heap.size w w':=by
 go_enter Tryz.func52,Tryz.ntmps52
 go_wp2_with fail
 refine (wW s w hG.g).mono ?_
 rintro e w1 ⟨b,rfl,hb,hb1⟩
 have hG1:=hG.below hb1
 clear hG
 cases b
 ·have HB:=Ff hb.out
  clear hb
  go_wp2
  go_ret
  exact⟨_,rfl,by unfold Hid bX;rw[HB.out];rfl,hb1⟩
 ·have HB:=Ff hb.out
  have hsz:=ou hb.out
  rw[bA] at hsz
  clear hb
  go_wp2_with fail
  refine (vS s w1 (by omega) hG1).mono ?_
  rintro e w2 ⟨b,rfl,hb,hb2⟩
  go_wp2
  go_ret
  exact⟨b,rfl,by unfold Hid bX;rw[HB.out,hb.out];rfl,hb1.trans (hb2.mono hb1.size)⟩
structure fS (w:World) (p:Option Addr) (l:List ByteArray):Prop where
 at_:0<l.length→∃ b o,p=some ⟨b,o,none⟩∧b<w.heap.size∧∀ i (h:i<l.length),w.cell? ⟨b,o+i,none⟩=some (.string l[i])
theorem fS.below {w w':World}{p:Option Addr}{l:List ByteArray} (h:fS w p l) (hb:Below w.heap.size w w'):fS w' p l:=by
 refine⟨fun hl=>?_⟩
 obtain⟨b,o,e,hlt,hc⟩:=h.at_ hl
 exact⟨b,o,e,Fo hlt hb.size,fun i hi=>(hb.cell (p:=⟨b,o+i,none⟩) hlt).trans (hc i hi)⟩
def fZ (l:List ByteArray):Bool:=decide (1≤l.length)&&decide (l.length≤7)&&l.all fun s=>bX s.data.toList
def nF (l:List ByteArray):Option (List UInt8):=l.head?.map fun s=>s.data.toList
def aB (a b:List ByteArray):Bool:=fZ a&&fZ b&&decide (nF b=some [49])
theorem pP {l:List ByteArray} (h:l.length<1):fZ l=false:=by
 unfold fZ;rw[decide_eq_false (by omega)];rfl
theorem nU {l:List ByteArray} (h:7<l.length):fZ l=false:=by
 unfold fZ;rw[decide_eq_false (by omega:¬ l.length≤7),Bool.and_false];rfl
theorem pN {l:List ByteArray}{i:Nat} (h:i<l.length) (hf:bX l[i].data.toList=false):fZ l=false:=by
 unfold fZ;rw[m7 h _ hf,Bool.and_false]
theorem nT {l:List ByteArray} (h1:1≤l.length) (h2:l.length≤7) (hf:(l.take l.length).all (fun s=>bX s.data.toList)=true):fZ l=true:=by
 rw[FO] at hf
 unfold fZ;rw[decide_eq_true h1,decide_eq_true h2,hf];rfl
theorem yT {l:List ByteArray} (h:fZ l=true):0<l.length:=by
 unfold fZ at h
 simp only[FI,decide_eq_true_eq] at h
 omega
theorem qS {l:List ByteArray} (h:0<l.length):decide (nF l=some [49])=decide (l[0].data.toList=[49]):=by
 match l,h with
 | a :: r,_=>simp[nF]
theorem D2 (p0 p1:Option Addr) (c0 c1:Nat) (l0 l1:List ByteArray) (w:World) (h0:fS w p0 l0) (h1:fS w p1 l1) (hG:Gx w) :
  Calls Tryz.prog 30 #[.agg #[.slice p0 l0.length c0,.slice p1 l1.length c1]] w fun e w'=>∃ n:Int,e=.returned (.int .i64 n)∧(n=0∧Hid (aB l0 l1=true)∨n=30∧Hid (aB l0 l1=false))∧Below w.heap.size w w':=by
 have hb0:Below w.heap.size w (w.alloc (.cells #[.slice p0 l0.length c0,.slice p1 l1.length c1] 24)):=(Below.refl _ _).alloc (Fm _) _
 have k0:=aG w #[.slice p0 l0.length c0,.slice p1 l1.length c1] 24 0 _ rfl
 have k1:=aG w #[.slice p0 l0.length c0,.slice p1 l1.length c1] 24 1 _ rfl
 have hlt:w.heap.size<(w.alloc (.cells #[.slice p0 l0.length c0,.slice p1 l1.length c1] 24)).heap.size:=by simp
 have W0:=h0.below hb0
 have W1:=h1.below hb0
 have G0:=hG.below hb0
 clear h0 h1 hG
 have i0:∀ w,(Instr.index 105 (.agg #[.slice p0 l0.length c0,.slice p1 l1.length c1]) (.int .i64 0)).run Tryz.prog w=.ok (.slice p0 l0.length c0) w:=fun _=>by kernel_rfl
 have i1:∀ w,(Instr.index 105 (.agg #[.slice p0 l0.length c0,.slice p1 l1.length c1]) (.int .i64 1)).run Tryz.prog w=.ok (.slice p1 l1.length c1) w:=fun _=>by kernel_rfl
 go_enter Tryz.func30,Tryz.ntmps30
 go_wp2_with fail
 generalize w.alloc (.cells #[.slice p0 l0.length c0,.slice p1 l1.length c1] 24)=w0 at *
 go_loopw [12] (fun s12 wr=>∃ j:Nat,s12=.int .i64 j∧j≤2∧Gx wr∧fS wr p0 l0∧fS wr p1 l1∧Below w.heap.size w wr∧Below w0.heap.size w0 wr∧Hid ((1≤j→fZ l0=true)∧(2≤j→fZ l1=true))) (fun s12 _=>2-(intOf s12).toNat)
 case atStart=>exact⟨0,rfl,by omega,G0,W0,W1,hb0,Below.refl _ _,fun h=>absurd h (by decide),fun h=>absurd h (by decide)⟩
 case round =>
  clear G0 W0 W1 hb0
  obtain⟨j,rfl,hj,hGr,hW0,hW1,hbr,hbr0,hdone⟩:=hrel
  rcases (by omega:j=0∨j=1∨j=2) with rfl | rfl | rfl
  ·by_cases hfew:l0.length<1
   ·have hd:decide (((l0.length:Nat):Int)<1)=true:=by simp;omega
    have HF:=Ff hfew
    clear hfew
    go_wp2
    go_ret
    exact⟨30,rfl,Or.inr ⟨rfl,by unfold Hid aB;rw[pP (l:=l0) HF.out];simp⟩,hbr⟩
   ·have hd:decide (((l0.length:Nat):Int)<1)=false:=by simp;omega
    have hpos:0<l0.length:=by omega
    clear hfew
    by_cases hmany:7<l0.length
    ·have hd2:decide ((7:Int)<((l0.length:Nat):Int))=true:=by simp;omega
     have HF:=Ff hmany
     clear hmany
     go_wp2
     go_ret
     exact⟨30,rfl,Or.inr ⟨rfl,by unfold Hid aB;rw[nU (l:=l0) HF.out];simp⟩,hbr⟩
    ·have hd2:decide ((7:Int)<((l0.length:Nat):Int))=false:=by simp;omega
     have hle:l0.length≤7:=by omega
     clear hmany
     go_wp2_with fail
     go_loopw [25] (fun s25 wq=>∃ i:Nat,s25=.int .i64 i∧i≤l0.length∧Gx wq∧fS wq p0 l0∧fS wq p1 l1∧Below w.heap.size w wq∧Below w0.heap.size w0 wq∧Hid ((l0.take i).all (fun s=>bX s.data.toList)=true)) (fun s25 _=>l0.length-(intOf s25).toNat)
     case atStart=>exact⟨0,rfl,by omega,hGr,hW0,hW1,hbr,hbr0,rfl⟩
     case round =>
      clear hGr hW0 hW1 hbr hbr0
      obtain⟨i,rfl,hi,hGr,hW0,hW1,hbr,hbr0,hall⟩:=hrel
      by_cases hil:i<l0.length
      ·obtain⟨b,o,rfl,hbw,hc⟩:=hW0.at_ hpos
       have hci:=hc i hil
       obtain⟨p,hp⟩:∃ p,p=l0[i]:=⟨_,rfl⟩
       rw[←hp] at hci
       have HP:=Ff hp
       clear hp hc
       go_wp2_with fail
       refine (se p _ hGr).mono ?_
       rintro e w2 ⟨b2,rfl,hb2,hbl2⟩
       have hb3:=hbr.trans (hbl2.mono hbr.size)
       cases b2
       ·go_wp2
        go_ret
        exact⟨30,rfl,Or.inr ⟨rfl,by unfold Hid aB;rw[pN (l:=l0) hil (by rw[←HP.out];exact hb2.out)];simp⟩,hb3⟩
       ·have hb4:=hbr0.trans (hbl2.mono hbr0.size)
        have hG2:=hGr.below hbl2
        have hV0:=hW0.below hbl2
        have hV1:=hW1.below hbl2
        clear hGr hW0 hW1 hbr hbr0 hbl2 hci
        go_wp2
        go_roundw
        case rel =>
         (repeat apply Exists.intro)
         exact⟨⟨i+1,by go_num,by omega,hG2,hV0,hV1,hb3,hb4,by unfold Hid;rw[jj hil,hall.out,←HP.out,hb2.out];rfl⟩,rfl⟩
        case measure=>simp[intOf];omega
      ·have hie:i=l0.length:=by omega
       subst hie
       have hgood:=nT (l:=l0) (by omega) (by omega) hall.out
       have HGOOD:=Ff hgood
       clear hil hi hgood
       go_wp2
       go_roundw
       case rel=>exact⟨1,by go_num,by omega,hGr,hW0,hW1,hbr,hbr0,⟨fun _=>HGOOD.out,fun h=>absurd h (by decide)⟩⟩
       case measure=>simp[intOf]
  ·by_cases hfew:l1.length<1
   ·have hd:decide (((l1.length:Nat):Int)<1)=true:=by simp;omega
    have HF:=Ff hfew
    clear hfew
    go_wp2
    go_ret
    exact⟨30,rfl,Or.inr ⟨rfl,by unfold Hid aB;rw[pP (l:=l1) HF.out];simp⟩,hbr⟩
   ·have hd:decide (((l1.length:Nat):Int)<1)=false:=by simp;omega
    have hpos:0<l1.length:=by omega
    clear hfew
    by_cases hmany:7<l1.length
    ·have hd2:decide ((7:Int)<((l1.length:Nat):Int))=true:=by simp;omega
     have HF:=Ff hmany
     clear hmany
     go_wp2
     go_ret
     exact⟨30,rfl,Or.inr ⟨rfl,by unfold Hid aB;rw[nU (l:=l1) HF.out];simp⟩,hbr⟩
    ·have hd2:decide ((7:Int)<((l1.length:Nat):Int))=false:=by simp;omega
     have hle:l1.length≤7:=by omega
     clear hmany
     go_wp2_with fail
     go_loopw [25] (fun s25 wq=>∃ i:Nat,s25=.int .i64 i∧i≤l1.length∧Gx wq∧fS wq p0 l0∧fS wq p1 l1∧Below w.heap.size w wq∧Below w0.heap.size w0 wq∧Hid ((l1.take i).all (fun s=>bX s.data.toList)=true)) (fun s25 _=>l1.length-(intOf s25).toNat)
     case atStart=>exact⟨0,rfl,by omega,hGr,hW0,hW1,hbr,hbr0,rfl⟩
     case round =>
      clear hGr hW0 hW1 hbr hbr0
      obtain⟨i,rfl,hi,hGr,hW0,hW1,hbr,hbr0,hall⟩:=hrel
      by_cases hil:i<l1.length
      ·obtain⟨b,o,rfl,hbw,hc⟩:=hW1.at_ hpos
       have hci:=hc i hil
       obtain⟨p,hp⟩:∃ p,p=l1[i]:=⟨_,rfl⟩
       rw[←hp] at hci
       have HP:=Ff hp
       clear hp hc
       go_wp2_with fail
       refine (se p _ hGr).mono ?_
       rintro e w2 ⟨b2,rfl,hb2,hbl2⟩
       have hb3:=hbr.trans (hbl2.mono hbr.size)
       cases b2
       ·go_wp2
        go_ret
        exact⟨30,rfl,Or.inr ⟨rfl,by unfold Hid aB;rw[pN (l:=l1) hil (by rw[←HP.out];exact hb2.out)];simp⟩,hb3⟩
       ·have hb4:=hbr0.trans (hbl2.mono hbr0.size)
        have hG2:=hGr.below hbl2
        have hV0:=hW0.below hbl2
        have hV1:=hW1.below hbl2
        clear hGr hW0 hW1 hbr hbr0 hbl2 hci
        go_wp2
        go_roundw
        case rel =>
         (repeat apply Exists.intro)
         exact⟨⟨i+1,by go_num,by omega,hG2,hV0,hV1,hb3,hb4,by unfold Hid;rw[jj hil,hall.out,←HP.out,hb2.out];rfl⟩,rfl⟩
        case measure=>simp[intOf];omega
      ·have hie:i=l1.length:=by omega
       subst hie
       have hgood:=nT (l:=l1) (by omega) (by omega) hall.out
       have HGOOD:=Ff hgood
       clear hil hi hgood
       go_wp2
       go_roundw
       case rel=>exact⟨2,by go_num,by omega,hGr,hW0,hW1,hbr,hbr0,⟨fun _=>hdone.out.1 (by decide),fun _=>HGOOD.out⟩⟩
       case measure=>simp[intOf]
  ·have g0:=hdone.out.1 (by decide)
   have g1:=hdone.out.2 (by decide)
   have hpos:=yT g1
   have H0:=Ff g0
   have H1:=Ff g1
   have k1':=(hbr0.cell (p:=⟨w.heap.size,1,none⟩) hlt).trans k1
   obtain⟨b,o,rfl,hbw,hc⟩:=hW1.at_ hpos
   have hci:wr.cell? ⟨b,o,none⟩=some (.string l1[0]):=hc 0 hpos
   obtain⟨p,hp⟩:∃ p,p=l1[0]:=⟨_,rfl⟩
   rw[←hp] at hci
   have HP:=Ff hp
   have hposI:(0:Int)<((l1.length:Nat):Int):=by omega
   clear hp hc g0 g1 hdone k0 k1 i0 i1
   by_cases heq:p.toList=[49]
   ·have z1:(p.toList == [49])=true:=by simp[heq]
    have z2:(p.toList != [49])=false:=by simp[heq]
    have z3:decide (p.toList=[49])=true:=by simp[heq]
    have HE:=Ff heq
    clear heq
    go_wp2
    go_ret
    exact⟨0,rfl,Or.inl ⟨rfl,by unfold Hid aB;rw[H0.out,H1.out,qS hpos,decide_eq_true (by rw[←HP.out,←av];exact HE.out)];rfl⟩,hbr⟩
   ·have z1:(p.toList == [49])=false:=by simp[heq]
    have z2:(p.toList != [49])=true:=by simp[heq]
    have z3:decide (p.toList=[49])=false:=by simp[heq]
    have HE:=Ff heq
    clear heq
    go_wp2
    go_ret
    exact⟨30,rfl,Or.inr ⟨rfl,by unfold Hid aB;rw[H0.out,H1.out,qS hpos,decide_eq_false (by rw[←HP.out,←av];exact HE.out)];rfl⟩,hbr⟩
theorem CJ:dec 1=[49]:=by rw[dO (by decide)];rfl
theorem An:dec 0=[48]:=by rw[dO (by decide)];rfl
theorem mc:cT [48]=some ⟨false,0,1⟩:=by rfl
theorem jY:cX ⟨false,0,1⟩=false:=by unfold cX;simp[CJ,An]
end Go.Proofs.YtbnkpcfjechfiaaGreatDoor
