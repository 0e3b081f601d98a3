/- L -/
import Derived.BigQuiet
import Derived.WalkMore
import Derived.Deep.DeepCutAuto
import Derived.Deep.CutBlock
import Derived.Deep.CutRange
import Derived.Deep.RegionWith
import Derived.RegionTactic
import Derived.Laws.Runes
import Derived.Test.YtlhpcoelfhjomaaGreatDoorQRed
import Derived.Test.YtlhpcoelfhjomaaGreatDoorQRBase
import Derived.Test.YtlhpcoelfhjomaaGreatDoorQRNat2
set_option linter.all false
set_option maxRecDepth 100000
set_option maxHeartbeats 8000000
namespace Go.Proofs.YtlhpcoelfhjomaaGreatDoor
open Go.RowKit Dc Dg
def dZ (t:List UInt8):Nat->Option Nat
 | 0=>none
 | k+1=>if t[k+1]?=some 43\/t[k+1]?=some 45 then some (k+1) else dZ t k
def nC (t:List UInt8):List UInt8×List UInt8 :=
 match dZ t (t.length-1) with
 | none=>([48],t)
 | some k=>(t.take k,Lib.trimPrefix (t.drop k) [43])
def gL (s:List UInt8):List UInt8×List UInt8 :=
 if Lib.hasSuffix s [105]=true then
  (fun p:List UInt8×List UInt8=>(p.1,if p.2=[]\/p.2=[45] then p.2++[49] else p.2))
   (nC (Lib.trimSuffix s [105]))
 else (s,[48])
def ix (s:List UInt8):Option Vl :=
 if 8008<s.length then none else
 match dx (gL s).1,dx (gL s).2 with
 | some p,some q=>if bX ⟨p,q⟩=s/\dt p=false/\dt q=false then some ⟨p,q⟩ else none
 | _,_=>none
theorem mQ {mi:Bool}{n d:Nat} (h:0<d):0<(dP mi n d).d:=by
 unfold dP
 split
 ·decide
 ·exact Ls (LC _ h) (JH _ h)
theorem og {s:List UInt8}{r:Rt} (h:dx s=some r):0<r.d:=by
 unfold dx at h
 split at h
 ·cases h
 ·split at h
  ·split at h
   ·cases h
   ·split at h
    ·cases h
    ·rename_i h0;injection h with h;subst h;exact mQ (by omega)
  ·injection h with h;subst h;exact mQ (by decide)
structure du (w:World) (k:Nat) (a b c d e f:Value):Prop where
 hp:w.heap[k]?=some (.cells #[a,b,c,d,e,f] 93 (0,0))
 na:∀ z,a≠.int .u64 z
 nb:∀ z,b≠.int .u64 z
 nc:∀ z,c≠.int .u64 z
 nd:∀ z,d≠.int .u64 z
 ne:∀ z,e≠.int .u64 z
 nf:∀ z,f≠.int .u64 z
theorem du.lt {w:World}{k:Nat}{a b c d e f:Value} (h:du w k a b c d e f):k<w.heap.size:=(ID.1 h.hp).1
theorem du.cell {w:World}{k:Nat}{a b c d e f:Value} (h:du w k a b c d e f) (j:Nat):w.cell? ⟨k,j,none⟩=#[a,b,c,d,e,f][j]?:=by rw[World.cell?,h.hp];rfl
theorem du.fr {w:World}{k:Nat}{a b c d e f:Value} (h:du w k a b c d e f) (j:Nat):w.frozen? ⟨k,j,none⟩=false:=by
 rw[World.frozen?,h.hp];simp
theorem du.below {w w':World}{k:Nat}{a b c d e f:Value} (h:du w k a b c d e f) (hb:Below w.heap.size w w'):du w' k a b c d e f :=
 ⟨by rw[hb.block k h.lt];exact h.hp,h.na,h.nb,h.nc,h.nd,h.ne,h.nf⟩
theorem du.new (w:World) (a b c d e f:Value) (na:∀ z,a≠.int .u64 z) (nb:∀ z,b≠.int .u64 z) (nc:∀ z,c≠.int .u64 z) (nd:∀ z,d≠.int .u64 z) (ne:∀ z,e≠.int .u64 z) (nf:∀ z,f≠.int .u64 z):du (w.alloc (.cells #[a,b,c,d,e,f] 93)) w.heap.size a b c d e f :=
 ⟨heap_alloc_new w _,na,nb,nc,nd,ne,nf⟩
theorem du.other {w:World}{k:Nat}{a b c d e f:Value} (h:du w k a b c d e f) {v:Value}{l:List Nat} (hv:IsU w v l) (j:Nat) (u:Value):IsU (w.setCell ⟨k,j,none⟩ u) v l:=by
 obtain⟨p,cap,e1,h1,h2,h3⟩:=hv
 refine⟨p,cap,e1,h1,h2,fun hl=>?_⟩
 obtain⟨b',o,e2,hlt,hc⟩:=h3 hl
 have hne:b'≠k:=by
  intro e3
  subst e3
  have h0:=hc 0 hl
  rw[h.cell] at h0
  match o+0,h0 with
  | 0,h0=>simp at h0;exact h.na _ h0
  | 1,h0=>simp at h0;exact h.nb _ h0
  | 2,h0=>simp at h0;exact h.nc _ h0
  | 3,h0=>simp at h0;exact h.nd _ h0
  | 4,h0=>simp at h0;exact h.ne _ h0
  | 5,h0=>simp at h0;exact h.nf _ h0
  | n+6,h0=>simp at h0
 refine⟨b',o,e2,by simpa[World.setCell] using hlt,fun i hi=>?_⟩
 rw[World.cell?_setCell_other _ _ _ _ (by intro e3;exact hne (congrArg Addr.block e3).symm)]
 exact hc i hi
theorem qL {P:Program}{f:FuncId}{args:Array Value}{w:World}{n m:Nat}{v:Value}
  (h:Calls P f args (w.drewN (n+m)) fun e w'=>e=.returned v/\w'=w.drewN (n+m)):Calls P f args (w.drewN (n+m)) fun e w''=>e=.returned v/\∃ k,w''=w.drewN (n+k) :=
 h.mono fun _ _ ⟨he,hm⟩=>⟨he,m,hm⟩
theorem oA (s p:ByteArray) (w:World) :
  Calls Tryz.prog 90 #[.string s,.string p] w fun e w'=>e=.returned (.string ⟨(Lib.trimPrefix s.data.toList p.data.toList).toArray⟩)/\w'=w:=by
 refine (Tryz.strings_TrimPrefix s p w).mono ?_;rintro e w' ⟨rfl,rfl⟩;exact⟨rfl,rfl⟩
theorem xT (s p:ByteArray) (w:World) (hs:s.size<=9223372036854775807) :
  Calls Tryz.prog 134 #[.string s,.string p] w fun e w'=>∃ (t:ByteArray) (b:Bool),e=.returned (.tuple #[.string t,.bool b])/\Hid (Lib.hasSuffix s.data.toList p.data.toList=b)/\Hid (t.data.toList=Lib.trimSuffix s.data.toList p.data.toList)/\t.size<=s.size/\w=w':=by
 refine (xU s p w hs).mono ?_;rintro e w' ⟨t,rfl,h1,h2,h3⟩;exact⟨t,_,rfl,rfl,h1,h2,h3⟩
def eU (w:World) (k:Nat) (a b c d e f:Value):World :=
 (((((w.setCell ⟨k,0,none⟩ a).setCell ⟨k,1,none⟩ b).setCell ⟨k,2,none⟩ c).setCell ⟨k,3,none⟩ d).setCell ⟨k,4,none⟩ e).setCell ⟨k,5,none⟩ f
theorem du.put {w:World}{k:Nat}{a b c d e f a' b' c' d' e' f':Value} (h:du w k a b c d e f) (na:∀ z,a'≠.int .u64 z) (nb:∀ z,b'≠.int .u64 z) (nc:∀ z,c'≠.int .u64 z) (nd:∀ z,d'≠.int .u64 z) (ne:∀ z,e'≠.int .u64 z) (nf:∀ z,f'≠.int .u64 z) :
  du (eU w k a' b' c' d' e' f') k a' b' c' d' e' f' /\
  (∀ v l,IsU w v l->IsU (eU w k a' b' c' d' e' f') v l) /\
  ∀ w0,Below w0.heap.size w0 w->w0.heap.size<=k->Below w0.heap.size w0 (eU w k a' b' c' d' e' f'):=by
 have h1:du (w.setCell ⟨k,0,none⟩ a') k a' b c d e f:=⟨by rw[heap_setCell_same w k 0 #[a,b,c,d,e,f] _ a' h.hp];rfl,na,h.nb,h.nc,h.nd,h.ne,h.nf⟩;have h2:du ((w.setCell ⟨k,0,none⟩ a').setCell ⟨k,1,none⟩ b') k a' b' c d e f:=⟨by rw[heap_setCell_same _ k 1 #[a',b,c,d,e,f] _ b' h1.hp];rfl,na,nb,h.nc,h.nd,h.ne,h.nf⟩;have h3:du (((w.setCell ⟨k,0,none⟩ a').setCell ⟨k,1,none⟩ b').setCell ⟨k,2,none⟩ c') k a' b' c' d e f:=⟨by rw[heap_setCell_same _ k 2 #[a',b',c,d,e,f] _ c' h2.hp];rfl,na,nb,nc,h.nd,h.ne,h.nf⟩;have h4:du ((((w.setCell ⟨k,0,none⟩ a').setCell ⟨k,1,none⟩ b').setCell ⟨k,2,none⟩ c').setCell ⟨k,3,none⟩ d') k a' b' c' d' e f:=⟨by rw[heap_setCell_same _ k 3 #[a',b',c',d,e,f] _ d' h3.hp];rfl,na,nb,nc,nd,h.ne,h.nf⟩;have h5:du (((((w.setCell ⟨k,0,none⟩ a').setCell ⟨k,1,none⟩ b').setCell ⟨k,2,none⟩ c').setCell ⟨k,3,none⟩ d').setCell ⟨k,4,none⟩ e') k a' b' c' d' e' f:=⟨by rw[heap_setCell_same _ k 4 #[a',b',c',d',e,f] _ e' h4.hp];rfl,na,nb,nc,nd,ne,h.nf⟩;have h6:du (eU w k a' b' c' d' e' f') k a' b' c' d' e' f':=⟨by unfold eU;rw[heap_setCell_same _ k 5 #[a',b',c',d',e',f] _ f' h5.hp];rfl,na,nb,nc,nd,ne,nf⟩;refine⟨h6,fun v l hv=>h5.other (h4.other (h3.other (h2.other (h1.other (h.other hv 0 a') 1 b') 2 c') 3 d') 4 e') 5 f',fun w0 hb hk=>?_⟩;exact (((((hb.setCell (p:=⟨k,0,none⟩) hk _).setCell (p:=⟨k,1,none⟩) hk _).setCell (p:=⟨k,2,none⟩) hk _).setCell (p:=⟨k,3,none⟩) hk _).setCell (p:=⟨k,4,none⟩) hk _).setCell (p:=⟨k,5,none⟩) hk _
structure GSt (w0 w:World) (k:Nat):Prop where
 own:du w k (.bool false) (.slice none 0 0) (.slice none 0 0) (.bool false) (.slice none 0 0) (.slice none 0 0)
 hG:Gw w
 bl:Below w0.heap.size w0 w
theorem GSt.below {w0 w w':World}{k:Nat} (h:GSt w0 w k) (hb:Below w.heap.size w w'):GSt w0 w' k :=
 ⟨h.own.below hb,h.hG.below hb,h.bl.trans (hb.mono h.bl.size)⟩
def iX:Value:=.agg #[.bool false,.slice none 0 0,.slice none 0 0,.bool false,.slice none 0 0,.slice none 0 0]
def E1 (s:List UInt8) (w:World) (e:Ending) (w':World):Prop :=
 ∃ v ok,e=.returned (.tuple #[v,.bool ok])/\((∃ z,ix s=some z/\ok=true/\IsV w' v z)\/(ix s=none/\ok=false/\v=iX))/\Below w.heap.size w w'
theorem wX {t:List UInt8}{m:Nat} (h:t[m+1]?=some 43\/t[m+1]?=some 45):dZ t (m+1)=some (m+1):=by
 unfold dZ;rw[if_pos h]
theorem wW {t:List UInt8}{m:Nat} (h:¬ (t[m+1]?=some 43\/t[m+1]?=some 45)):dZ t (m+1)=dZ t m:=by
 rw[dZ,if_neg h]
theorem oP {t:ByteArray}{k:Nat} (h:k<t.size) {c:UInt8}:t.data.toList[k]?=some c↔((t[k].toNat:Nat):Int)=(c.toNat:Nat):=by
 rw[II (by rw[bJ];exact h),Option.some_inj]
 show t[k]=c↔_
 constructor
 ·intro e;rw[e]
 ·intro e;exact UInt8.toNat_inj.1 (by omega)
theorem D3 {t:ByteArray}{k:Nat} (h0:0<k) (h:k<t.size) (h1:¬ ((t[k].toNat:Nat):Int)=43) (h2:¬ ((t[k].toNat:Nat):Int)=45):dZ t.data.toList k=dZ t.data.toList (k-1):=by
 obtain⟨m,rfl⟩:∃ m,k=m+1:=⟨k-1,by omega⟩;exact wW (fun hh=>hh.elim (fun e=>h1 ((oP h).1 e)) (fun e=>h2 ((oP h).1 e)))
theorem D5 {t:ByteArray}{k m:Nat} (hs:dZ t.data.toList m=dZ t.data.toList k) (hm:m=t.data.toList.length-1) (h0:0<k) (h:k<t.size) (h1:((t[k].toNat:Nat):Int)=43\/((t[k].toNat:Nat):Int)=45) {x y:List UInt8} (hx:x=t.data.toList.take k) (hy:y=Lib.trimPrefix (t.data.toList.drop k) [43]):Hid (nC t.data.toList=(x,y)):=by
 subst hm;obtain⟨m,rfl⟩:∃ m,k=m+1:=⟨k-1,by omega⟩;unfold Hid nC;rw[hs,wX (h1.elim (fun e=>Or.inl ((oP h).2 e)) (fun e=>Or.inr ((oP h).2 e))),hx,hy]
theorem sD {t:ByteArray}{k m:Nat}{w0 wz:World} (hs:dZ t.data.toList m=dZ t.data.toList k) (h0:0<k) (h:k<t.size) (h1:((t[k].toNat:Nat):Int)=43\/((t[k].toNat:Nat):Int)=45) (hts:t.size<=9000) (hz:∃ n,wz=w0.drewN n) (hm:m=t.data.toList.length-1:=by rfl) :
  ∃ x y n,Value.string (t.extract 0 k)=Value.string x/\Value.string ⟨(Lib.trimPrefix (t.extract k t.size).data.toList [43]).toArray⟩=Value.string y/\Hid (nC t.data.toList=(x.data.toList,y.data.toList))/\x.size<=9000/\y.size<=9000/\wz=w0.drewN n:=by
 obtain⟨n,rfl⟩:=hz
 have hd:(t.extract k t.size).data.toList=t.data.toList.drop k:=by
  rw[ByteArray.data_extract,Array.toList_extract,List.extract_eq_take_drop,IE (by simp)]
 refine⟨_,_,n,rfl,rfl,D5 hs hm h0 h h1 (ci t k) (by rw[hd]),?_,?_,rfl⟩
 ·rw[<-bJ,ci,IY];omega
 ·rw[kZ,hd]
  have:(Lib.trimPrefix (t.data.toList.drop k) [43]).length<=(t.data.toList.drop k).length:=by
   unfold Lib.trimPrefix;split
   ·rw[IP];omega
   ·exact Iw _
  rw[IP,bJ] at this;omega
theorem sI {s:List UInt8}{t x y:ByteArray} (h1:Lib.hasSuffix s [105]=true) (h2:t.data.toList=Lib.trimSuffix s [105]) (h3:nC t.data.toList=(x.data.toList,y.data.toList)) (h4:y.data.toList=[]\/y.data.toList=[45]) :
  Hid (gL s=(x.data.toList,(y++(⟨#[49]⟩:ByteArray)).data.toList)):=by
 unfold Hid gL;rw[if_pos h1,<-h2,h3];simp only[if_pos h4];simp
theorem yz {s:List UInt8}{t x y:ByteArray} (h1:Lib.hasSuffix s [105]=true) (h2:t.data.toList=Lib.trimSuffix s [105]) (h3:nC t.data.toList=(x.data.toList,y.data.toList)) (h4:¬ y.data.toList=[]) (h5:¬ y.data.toList=[45]) :
  Hid (gL s=(x.data.toList,y.data.toList)):=by
 unfold Hid gL;rw[if_pos h1,<-h2,h3];simp only;rw[if_neg (fun h=>h.elim h4 h5)]
theorem Ai {y:ByteArray} (h:y.size<=9000):(y++(⟨#[49]⟩:ByteArray)).size<=10000:=by
 rw[ByteArray.size_append];have:(⟨#[49]⟩:ByteArray).size=1:=rfl;omega
structure Tri (w:World) (k:Nat) (a b c:Value):Prop where
 lt:k<w.heap.size
 c0:w.cell? ⟨k,0,none⟩=some a
 c1:w.cell? ⟨k,1,none⟩=some b
 c2:w.cell? ⟨k,2,none⟩=some c
theorem Tri.below {w w':World}{k:Nat}{a b c:Value} (h:Tri w k a b c) (hb:Below w.heap.size w w'):Tri w' k a b c :=
 ⟨Iz h.lt hb.size,(hb.cell (p:=⟨k,0,none⟩) h.lt).trans h.c0,(hb.cell (p:=⟨k,1,none⟩) h.lt).trans h.c1,(hb.cell (p:=⟨k,2,none⟩) h.lt).trans h.c2⟩
theorem Tri.new (w:World) (a b c:Value) (T:TypeId):Tri (w.alloc (.cells #[a,b,c] T)) w.heap.size a b c :=
 ⟨by simp,aI w _ T 0 _ rfl,aI w _ T 1 _ rfl,aI w _ T 2 _ rfl⟩
theorem Dw {w:World}{a b c d e f:Value}{p q:Rt} (h1:IsR w (.agg #[a,b,c]) p) (h2:IsR w (.agg #[d,e,f]) q):IsV w (.agg #[a,b,c,d,e,f]) ⟨p,q⟩:=⟨a,b,c,d,e,f,rfl,h1,h2⟩
theorem IsR.keep {w w':World}{v:Value}{r:Rt} (h:IsR w v r) (hk:∀ v l,IsU w v l->IsU w' v l):IsR w' v r:=by
 obtain⟨vn,vd,e,h1,h2,h3,h4⟩:=h;exact⟨vn,vd,e,hk _ _ h1,hk _ _ h2,h3,h4⟩
theorem bigB (va:Value) (r:Rt) (w:World) (ha:IsR w va r) (hG:Gw w) :
  Calls Tryz.prog 106 #[va] w fun e w'=>∃ b:Bool,e=.returned (.bool b)/\Hid (dt r=b)/\Below w.heap.size w w':=by
 refine (tD va r w ha hG).mono ?_;rintro e w' ⟨rfl,hb⟩;exact⟨_,rfl,rfl,hb⟩
structure HSt (w0 w:World) (k k1 k2 k3:Nat) (a b c d e f:Value):Prop where
 g:GSt w0 w k
 t1:Tri w k1 a b c
 t2:Tri w k2 d e f
 v:cC w k3 a b c d e f
theorem HSt.below {w0 w w':World}{k k1 k2 k3:Nat}{a b c d e f:Value} (h:HSt w0 w k k1 k2 k3 a b c d e f) (hb:Below w.heap.size w w'):HSt w0 w' k k1 k2 k3 a b c d e f :=
 ⟨h.g.below hb,h.t1.below hb,h.t2.below hb,h.v.below hb⟩
theorem kU (s:ByteArray) (w:World) (hG:Gw w) :
  Calls Tryz.prog 87 #[.string s] w (E1 s.data.toList w):=by
 have hb0:Below w.heap.size w (w.alloc (.cells #[.bool false,.slice none 0 0,.slice none 0 0,.bool false,.slice none 0 0,.slice none 0 0] 93)):=(LN _ _).alloc (Iw _) _
 have S0:GSt w (w.alloc (.cells #[.bool false,.slice none 0 0,.slice none 0 0,.bool false,.slice none 0 0,.slice none 0 0] 93)) w.heap.size :=
  ⟨du.new w _ _ _ _ _ _ nofun nofun nofun nofun nofun nofun,hG.below hb0,hb0⟩
 clear hG hb0;by_cases hlong:8008<s.size
 ·have hq:decide ((8008:Int)<(s.size:Int))=true:=by simp;omega
  have HL:=Ip hlong;clear hlong;go_enter Tryz.func87,Tryz.ntmps87;have q0:=S0.own.cell 0;have q1:=S0.own.cell 1;have q2:=S0.own.cell 2;have q3:=S0.own.cell 3;have q4:=S0.own.cell 4;have q5:=S0.own.cell 5;go_wp2_with fail
  refine LM (v:=.tuple #[iX,.bool false]) (by simp[results,Tryz.results87,go_sem,q0,q1,q2,q3,q4,q5,iX]) rfl ⟨_,_,rfl,Or.inr ⟨?_,rfl,rfl⟩,S0.bl⟩;unfold ix;rw[if_pos (by rw[bJ];exact HL.out)]
 ·have hq:decide ((8008:Int)<(s.size:Int))=false:=by simp;omega
  have hsz:s.size<=8008:=by omega
  clear hlong;go_enter Tryz.func87,Tryz.ntmps87;go_wp2_with fail
  generalize w.alloc (.cells #[.bool false,.slice none 0 0,.slice none 0 0,.bool false,.slice none 0 0,.slice none 0 0] 93)=w0 at S0 |-;refine (xT _ _ w0 (by omega)).mono ?_;rintro e w1 ⟨t,sx,rfl,hsx,ht,hts,rfl⟩
  go_upto_if 25 with fail
  go_cut [5,6,9] from 26 to 54 (fun s5 s6 s9 wx=>∃ (x y:ByteArray) (n:Nat),s5=.string x/\s6=.string y/\Hid (gL s.data.toList=(x.data.toList,y.data.toList))/\x.size<=10000/\y.size<=10000/\wx=w0.drewN n)
  case first =>
   cases sx
   ·have HS:=Ip hsx.out;go_wp2;go_meet;exact⟨s,⟨#[48]⟩,0,rfl,rfl,by unfold Hid gL;rw[if_neg (by rw[HS.out];exact J_)],by omega,by decide,rfl⟩
   ·have HS:=Ip hsx.out;go_wp2_with fail
    go_step3
    go_wp2_with fail
    go_step3
    go_upto_block 0 with fail
    go_cut [5,6,9] from 30 to 46 (fun s5 s6 s9 wx=>∃ (x y:ByteArray) (n:Nat),s5=.string x/\s6=.string y/\Hid (nC t.data.toList=(x.data.toList,y.data.toList))/\x.size<=9000/\y.size<=9000/\wx=w0.drewN n)
    case first =>
     go_wp2_with fail
     go_loopg [5,6,9] (t.size-1) (fun g s5 s6 s9 wq=>∃ (z:Int) (n:Nat),s5=.string ⟨#[48]⟩/\s6=.string t/\s9=.int .i64 z/\(z=(g:Int)\/(g=0/\z=-1))/\g<=t.size-1/\Hid (dZ t.data.toList (t.data.toList.length-1)=dZ t.data.toList g)/\wq=w0.drewN n)
     case atStart=>exact⟨_,0,rfl,rfl,rfl,by omega,Iw _,by rw[bJ];rfl,rfl⟩
     case round =>
      obtain⟨z,n,rfl,rfl,rfl,hz,hgt,hsig,rfl⟩:=hrel;by_cases hg0:gk=0
      ·have hz0:z<=0:=by omega
       have HZ:=Ip hg0;clear hg0 hz hgt;go_wp2;go_meet;exact⟨_,_,n,rfl,rfl,by have h1:=hsig.out;rw[HZ.out] at h1;unfold Hid nC;rw[h1];rfl,by decide,by omega,rfl⟩
      ·obtain rfl:z=(gk:Int):=by omega
       have hlt:gk<t.size:=by omega
       have hpos:0<gk:=by omega
       have hle:gk<=t.size:=by omega
       have hleI:(gk:Int)<=(t.size:Int):=by omega
       have hleD:decide ((gk:Int)<=(t.size:Int))=true:=by simp;omega
       clear hg0 hz;by_cases hc:((t[gk].toNat:Nat):Int)=43
       ·have q1:(((t[gk].toNat:Nat):Int) == 43)=true:=by simp[hc]
        have HC:=Ip hc;clear hc;go_wp2_with fail
        go_quiet ((go_at_call 90;exact qL (oA _ _ _)))
        go_wp2;go_meet;exact sD hsig.out hpos hlt (Or.inl HC.out) (by omega) ⟨_,by first | rfl | rw[World.drewN_drewN]⟩
       ·have q1:(((t[gk].toNat:Nat):Int) == 43)=false:=by simp[hc]
        have HC:=Ip hc;clear hc;by_cases hc:((t[gk].toNat:Nat):Int)=45
        ·have q2:(((t[gk].toNat:Nat):Int) == 45)=true:=by simp[hc]
         have HC2:=Ip hc;clear hc;go_wp2_with fail
         go_quiet ((go_at_call 90;exact qL (oA _ _ _)))
         go_wp2;go_meet;exact sD hsig.out hpos hlt (Or.inr HC2.out) (by omega) ⟨_,by first | rfl | rw[World.drewN_drewN]⟩
        ·have q2:(((t[gk].toNat:Nat):Int) == 45)=false:=by simp[hc]
         have HC2:=Ip hc;clear hc;go_wp2_with fail
         go_roundg (gk-1)
         case measure=>omega
         case rel=>exact⟨_,n,rfl,rfl,rfl,by omega,by omega,by have h1:=hsig.out;unfold Hid;rw[h1];exact D3 hpos hlt HC.out HC2.out,rfl⟩
    case rest =>
     obtain⟨x,y,n,rfl,rfl,hpre,hxs,hys,rfl⟩:=hcut;by_cases h1:y.toList=[]
     ·have q1:(y.toList == [])=true:=by rw[h1];rfl
      have h1':=Ip h1;clear h1;go_wp2;rw[Exit.noGoto_normal];go_wp2;go_meet;exact⟨_,_,n,rfl,rfl,sI HS.out ht.out hpre.out (Or.inl (by rw[<-aw];exact h1'.out)),by omega,Ai hys,rfl⟩
     ·have q1:(y.toList == [])=false:=by simpa using h1
      have h1':=Ip h1;clear h1;by_cases h2:y.toList=[45]
      ·have q2:(y.toList == [45])=true:=by rw[h2];rfl
       have h2':=Ip h2;clear h2;go_wp2;rw[Exit.noGoto_normal];go_wp2;go_meet;exact⟨_,_,n,rfl,rfl,sI HS.out ht.out hpre.out (Or.inr (by rw[<-aw];exact h2'.out)),by omega,Ai hys,rfl⟩
      ·have q2:(y.toList == [45])=false:=by simpa using h2
       have h2':=Ip h2;clear h2;go_wp2;rw[Exit.noGoto_normal];go_wp2;go_meet;exact⟨_,_,n,rfl,rfl,yz HS.out ht.out hpre.out (fun e=>h1'.out (by rw[aw];exact e)) (fun e=>h2'.out (by rw[aw];exact e)),by omega,by omega,rfl⟩
  case rest =>
   obtain⟨x,y,n,rfl,rfl,hp,hxs,hys,rfl⟩:=hcut;have S1:GSt w (w0.drewN n) w.heap.size:=S0.below (below_drewN (LN _ _) n);clear S0;go_wp2_with fail
   refine (qB x _ (by omega) S1.hG).mono ?_;rintro e w2 ⟨v,ok,rfl,hcase,hb2⟩;have S2:=S1.below hb2;clear S1 hb2;rcases hcase with ⟨p,hpx,rfl,hR⟩ | ⟨hpx,rfl,rfl⟩
   ·have HPX:=Ip hpx;clear hpx;have hR':=hR;obtain⟨vn,vd,rfl,hn,hd,_,_⟩:=hR';obtain⟨pn,cn,rfl,_,_,_⟩:=hn;obtain⟨pd,cd,rfl,_,_,_⟩:=hd;have hb3:Below w2.heap.size w2 (w2.alloc (.cells #[.bool p.minus,.slice pn (aq BB p.n).length cn,.slice pd (aq BB p.d).length cd] 89)):=(LN _ _).alloc (Iw _) _;have S3:=S2.below hb3;have T3:=Tri.new w2 (.bool p.minus) (.slice pn (aq BB p.n).length cn) (.slice pd (aq BB p.d).length cd) 89;have HR:=Ip (hR.below hb3);clear hb3 S2 hR;go_wp2_with fail
    generalize w2.alloc (.cells #[.bool p.minus,.slice pn (aq BB p.n).length cn,.slice pd (aq BB p.d).length cd] 89)=w3 at S3 T3 HR |-;refine (qB y _ (by omega) S3.hG).mono ?_;rintro e w4 ⟨v,ok,rfl,hcase,hb4⟩;have S4:=S3.below hb4;have T4:=T3.below hb4;have HR4:=Ip (HR.out.below hb4);clear S3 T3 HR hb4;rcases hcase with ⟨q,hqy,rfl,hQ⟩ | ⟨hqy,rfl,rfl⟩
    ·have HQY:=Ip hqy;clear hqy;have hQ':=hQ;obtain⟨vn,vd,rfl,hn,hd,_,_⟩:=hQ';obtain⟨qn,dn,rfl,_,_,_⟩:=hn;obtain⟨qd,dd,rfl,_,_,_⟩:=hd;have hb5:Below w4.heap.size w4 (w4.alloc (.cells #[.bool q.minus,.slice qn (aq BB q.n).length dn,.slice qd (aq BB q.d).length dd] 89)):=(LN _ _).alloc (Iw _) _;have hb6:Below (w4.alloc (.cells #[.bool q.minus,.slice qn (aq BB q.n).length dn,.slice qd (aq BB q.d).length dd] 89)).heap.size (w4.alloc (.cells #[.bool q.minus,.slice qn (aq BB q.n).length dn,.slice qd (aq BB q.d).length dd] 89)) ((w4.alloc (.cells #[.bool q.minus,.slice qn (aq BB q.n).length dn,.slice qd (aq BB q.d).length dd] 89)).alloc (.cells #[.bool p.minus,.slice pn (aq BB p.n).length cn,.slice pd (aq BB p.d).length cd,.bool q.minus,.slice qn (aq BB q.n).length dn,.slice qd (aq BB q.d).length dd] 93)):=(LN _ _).alloc (Iw _) _;have S5:=S4.below hb5;have T5:=T4.below hb5;have U5:=Tri.new w4 (.bool q.minus) (.slice qn (aq BB q.n).length dn) (.slice qd (aq BB q.d).length dd) 89;have c0:=T5.c0;have c1:=T5.c1;have c2:=T5.c2;have d0:=U5.c0;have d1:=U5.c1;have d2:=U5.c2;have S6:=S5.below hb6;have T6:=T5.below hb6;have U6:=U5.below hb6;have V6:=cC.new (w4.alloc (.cells #[.bool q.minus,.slice qn (aq BB q.n).length dn,.slice qd (aq BB q.d).length dd] 89)) (.bool p.minus) (.slice pn (aq BB p.n).length cn) (.slice pd (aq BB p.d).length cd) (.bool q.minus) (.slice qn (aq BB q.n).length dn) (.slice qd (aq BB q.d).length dd) 93
     have e0:=V6.c0;have e1:=V6.c1;have e2:=V6.c2;have e3:=V6.c3;have e4:=V6.c4;have e5:=V6.c5;have HP6:=Ip ((HR4.out.below hb5).below hb6);have HQ6:=Ip ((hQ.below hb5).below hb6);clear hb5 hb6 hQ S4 T4 S5 T5 U5 HR4;go_wp2_with fail
     clear c0 c1 c2 d0 d1 d2 e0 e1 e2 e3 e4 e5;have HS6:HSt w ((w4.alloc (.cells #[.bool q.minus,.slice qn (aq BB q.n).length dn,.slice qd (aq BB q.d).length dd] 89)).alloc (.cells #[.bool p.minus,.slice pn (aq BB p.n).length cn,.slice pd (aq BB p.d).length cd,.bool q.minus,.slice qn (aq BB q.n).length dn,.slice qd (aq BB q.d).length dd] 93)) w.heap.size w2.heap.size w4.heap.size (w4.heap.size+1) _ _ _ _ _ _:=⟨S6,T6,U6,by have h:=V6;rw[show (w4.alloc (.cells #[.bool q.minus,.slice qn (aq BB q.n).length dn,.slice qd (aq BB q.d).length dd] 89)).heap.size=w4.heap.size+1 from by simp] at h;exact h⟩;clear S6 T6 U6 V6;generalize (w4.alloc (.cells #[.bool q.minus,.slice qn (aq BB q.n).length dn,.slice qd (aq BB q.d).length dd] 89)).alloc (.cells #[.bool p.minus,.slice pn (aq BB p.n).length cn,.slice pd (aq BB p.d).length cd,.bool q.minus,.slice qn (aq BB q.n).length dn,.slice qd (aq BB q.d).length dd] 93)=w6 at HS6 HP6 HQ6 |-;refine (tr _ ⟨p,q⟩ _ (Dw HP6.out HQ6.out) (og HPX.out) (og HQY.out) HS6.g.hG).mono ?_;rintro e w7 ⟨tt,rfl,htt,htts,hb7⟩;have S7:=HS6.below hb7;have HP7:=Ip (HP6.out.below hb7);have HQ7:=Ip (HQ6.out.below hb7);clear HS6 HP6 HQ6 hb7;have c0:=S7.t1.c0;have c1:=S7.t1.c1;have c2:=S7.t1.c2;have d0:=S7.t2.c0;have d1:=S7.t2.c1;have d2:=S7.t2.c2;by_cases heq:tt.toList=s.toList
     ·have z1:(tt.toList == s.toList)=true:=by simp[heq]
      have z2:(tt.toList != s.toList)=false:=by simp[heq]
      have z3:decide (tt.toList=s.toList)=true:=by simp[heq]
      have HEQ:=Ip heq;clear heq;go_wp2_with fail
      refine (bigB _ p _ (by exact HP7.out) S7.g.hG).mono ?_;rintro e w8 ⟨bp,rfl,hbp,hb8⟩;have S8:=S7.below hb8;have HP8:=Ip (HP7.out.below hb8);have HQ8:=Ip (HQ7.out.below hb8);clear S7 HP7 HQ7 hb8 c0 c1 c2 d0 d1 d2;have d0:=S8.t2.c0;have d1:=S8.t2.c1;have d2:=S8.t2.c2
      cases bp
      ·have HBP:=Ip hbp.out;clear hbp;go_wp2_with fail
       refine (bigB _ q _ (by exact HQ8.out) S8.g.hG).mono ?_;rintro e w9 ⟨bq,rfl,hbq,hb9⟩;have S9:=S8.below hb9;have HP9:=Ip (HP8.out.below hb9);have HQ9:=Ip (HQ8.out.below hb9);clear S8 HP8 HQ8 hb9 d0 d1 d2
       cases bq
       ·have HBQ:=Ip hbq.out;clear hbq;have e0:=S9.v.c0;have e1:=S9.v.c1;have e2:=S9.v.c2;have e3:=S9.v.c3;have e4:=S9.v.c4;have e5:=S9.v.c5;have K0:=S9.g.own.cell 0;have K1:=S9.g.own.cell 1;have K2:=S9.g.own.cell 2;have K3:=S9.g.own.cell 3;have K4:=S9.g.own.cell 4;have K5:=S9.g.own.cell 5;have F0:=S9.g.own.fr 0;have F1:=S9.g.own.fr 1;have F2:=S9.g.own.fr 2;have F3:=S9.g.own.fr 3;have F4:=S9.g.own.fr 4;have F5:=S9.g.own.fr 5;have PH:=Ip (S9.g.own.put (a':=.bool p.minus) (b':=.slice pn (aq BB p.n).length cn) (c':=.slice pd (aq BB p.d).length cd) (d':=.bool q.minus) (e':=.slice qn (aq BB q.n).length dn) (f':=.slice qd (aq BB q.d).length dd) nofun nofun nofun nofun nofun nofun);have HBX:=Ip S9.g.bl;go_wp2;have q0:=PH.out.1.cell 0;have q1:=PH.out.1.cell 1;have q2:=PH.out.1.cell 2;have q3:=PH.out.1.cell 3;have q4:=PH.out.1.cell 4;have q5:=PH.out.1.cell 5;unfold eU at q0 q1 q2 q3 q4 q5;refine LM (v:=.tuple #[.agg #[.bool p.minus,.slice pn (aq BB p.n).length cn,.slice pd (aq BB p.d).length cd,.bool q.minus,.slice qn (aq BB q.n).length dn,.slice qd (aq BB q.d).length dd],.bool true]) (by simp[results,Tryz.results87,go_sem,q0,q1,q2,q3,q4,q5]) rfl ⟨_,_,rfl,Or.inl ⟨Vl.mk p q,?_,rfl,Dw (IsR.keep HP9.out PH.out.2.1) (IsR.keep HQ9.out PH.out.2.1)⟩,PH.out.2.2 w HBX.out (Iw _)⟩;unfold ix;rw[if_neg (by rw[bJ];omega),hp.out];simp only[HPX.out,HQY.out]
        rw[if_pos ⟨by rw[<-htt.out,<-aw,<-aw];exact HEQ.out,HBP.out,HBQ.out⟩]
       ·have HBQ:=Ip hbq.out;clear hbq;have K0:=S9.g.own.cell 0;have K1:=S9.g.own.cell 1;have K2:=S9.g.own.cell 2;have K3:=S9.g.own.cell 3;have K4:=S9.g.own.cell 4;have K5:=S9.g.own.cell 5;have F0:=S9.g.own.fr 0;have F1:=S9.g.own.fr 1;have F2:=S9.g.own.fr 2;have F3:=S9.g.own.fr 3;have F4:=S9.g.own.fr 4;have F5:=S9.g.own.fr 5;have PH:=Ip (S9.g.own.put (a':=.bool false) (b':=.slice none 0 0) (c':=.slice none 0 0) (d':=.bool false) (e':=.slice none 0 0) (f':=.slice none 0 0) nofun nofun nofun nofun nofun nofun);have HBX:=Ip S9.g.bl;go_wp2;have q0:=PH.out.1.cell 0;have q1:=PH.out.1.cell 1;have q2:=PH.out.1.cell 2;have q3:=PH.out.1.cell 3;have q4:=PH.out.1.cell 4;have q5:=PH.out.1.cell 5;unfold eU at q0 q1 q2 q3 q4 q5;refine LM (v:=.tuple #[iX,.bool false]) (by simp[results,Tryz.results87,go_sem,q0,q1,q2,q3,q4,q5,iX]) rfl ⟨_,_,rfl,Or.inr ⟨?_,rfl,rfl⟩,PH.out.2.2 w HBX.out (Iw _)⟩;unfold ix;rw[if_neg (by rw[bJ];omega),hp.out];simp only[HPX.out,HQY.out];rw[if_neg (fun h=>by rw[HBQ.out] at h;exact Bool.noConfusion h.2.2)]
      ·have HBP:=Ip hbp.out;clear hbp;have K0:=S8.g.own.cell 0;have K1:=S8.g.own.cell 1;have K2:=S8.g.own.cell 2;have K3:=S8.g.own.cell 3;have K4:=S8.g.own.cell 4;have K5:=S8.g.own.cell 5;have F0:=S8.g.own.fr 0;have F1:=S8.g.own.fr 1;have F2:=S8.g.own.fr 2;have F3:=S8.g.own.fr 3;have F4:=S8.g.own.fr 4;have F5:=S8.g.own.fr 5;have PH:=Ip (S8.g.own.put (a':=.bool false) (b':=.slice none 0 0) (c':=.slice none 0 0) (d':=.bool false) (e':=.slice none 0 0) (f':=.slice none 0 0) nofun nofun nofun nofun nofun nofun);have HBX:=Ip S8.g.bl;go_wp2;have q0:=PH.out.1.cell 0;have q1:=PH.out.1.cell 1;have q2:=PH.out.1.cell 2;have q3:=PH.out.1.cell 3;have q4:=PH.out.1.cell 4;have q5:=PH.out.1.cell 5;unfold eU at q0 q1 q2 q3 q4 q5;refine LM (v:=.tuple #[iX,.bool false]) (by simp[results,Tryz.results87,go_sem,q0,q1,q2,q3,q4,q5,iX]) rfl ⟨_,_,rfl,Or.inr ⟨?_,rfl,rfl⟩,PH.out.2.2 w HBX.out (Iw _)⟩;unfold ix;rw[if_neg (by rw[bJ];omega),hp.out];simp only[HPX.out,HQY.out];rw[if_neg (fun h=>by rw[HBP.out] at h;exact Bool.noConfusion h.2.1)]
     ·have z1:(tt.toList == s.toList)=false:=by simp[heq]
      have z2:(tt.toList != s.toList)=true:=by simp[heq]
      have z3:decide (tt.toList=s.toList)=false:=by simp[heq]
      have HEQ:=Ip heq;clear heq;have K0:=S7.g.own.cell 0;have K1:=S7.g.own.cell 1;have K2:=S7.g.own.cell 2;have K3:=S7.g.own.cell 3;have K4:=S7.g.own.cell 4;have K5:=S7.g.own.cell 5;have F0:=S7.g.own.fr 0;have F1:=S7.g.own.fr 1;have F2:=S7.g.own.fr 2;have F3:=S7.g.own.fr 3;have F4:=S7.g.own.fr 4;have F5:=S7.g.own.fr 5;have PH:=Ip (S7.g.own.put (a':=.bool false) (b':=.slice none 0 0) (c':=.slice none 0 0) (d':=.bool false) (e':=.slice none 0 0) (f':=.slice none 0 0) nofun nofun nofun nofun nofun nofun);have HBX:=Ip S7.g.bl;go_wp2;have q0:=PH.out.1.cell 0;have q1:=PH.out.1.cell 1;have q2:=PH.out.1.cell 2;have q3:=PH.out.1.cell 3;have q4:=PH.out.1.cell 4;have q5:=PH.out.1.cell 5;unfold eU at q0 q1 q2 q3 q4 q5;refine LM (v:=.tuple #[iX,.bool false]) (by simp[results,Tryz.results87,go_sem,q0,q1,q2,q3,q4,q5,iX]) rfl ⟨_,_,rfl,Or.inr ⟨?_,rfl,rfl⟩,PH.out.2.2 w HBX.out (Iw _)⟩;unfold ix;rw[if_neg (by rw[bJ];omega),hp.out];simp only[HPX.out,HQY.out];rw[if_neg (fun h=>HEQ.out (by rw[aw,aw,htt.out];exact h.1))]
    ·have HQY:=Ip hqy;clear hqy;have hb5:Below w4.heap.size w4 (w4.alloc (.cells #[.bool false,.slice none 0 0,.slice none 0 0] 89)):=(LN _ _).alloc (Iw _) _;have hb6:Below (w4.alloc (.cells #[.bool false,.slice none 0 0,.slice none 0 0] 89)).heap.size (w4.alloc (.cells #[.bool false,.slice none 0 0,.slice none 0 0] 89)) ((w4.alloc (.cells #[.bool false,.slice none 0 0,.slice none 0 0] 89)).alloc (.cells #[.bool p.minus,.slice pn (aq BB p.n).length cn,.slice pd (aq BB p.d).length cd,.bool false,.slice none 0 0,.slice none 0 0] 93)):=(LN _ _).alloc (Iw _) _;have S5:=S4.below hb5;have T5:=T4.below hb5;have U5:=Tri.new w4 (.bool false) (.slice none 0 0) (.slice none 0 0) 89;have c0:=T5.c0;have c1:=T5.c1;have c2:=T5.c2;have d0:=U5.c0;have d1:=U5.c1;have d2:=U5.c2;have S6:=S5.below hb6;have T6:=T5.below hb6;have U6:=U5.below hb6;have V6:=cC.new (w4.alloc (.cells #[.bool false,.slice none 0 0,.slice none 0 0] 89)) (.bool p.minus) (.slice pn (aq BB p.n).length cn) (.slice pd (aq BB p.d).length cd) (.bool false) (.slice none 0 0) (.slice none 0 0) 93;have e0:=V6.c0;have e1:=V6.c1;have e2:=V6.c2;have e3:=V6.c3;have e4:=V6.c4;have e5:=V6.c5;clear hb5 hb6 S4 T4 S5 T5 U5 T6 U6 V6;have K0:=S6.own.cell 0;have K1:=S6.own.cell 1;have K2:=S6.own.cell 2;have K3:=S6.own.cell 3;have K4:=S6.own.cell 4;have K5:=S6.own.cell 5;have F0:=S6.own.fr 0;have F1:=S6.own.fr 1;have F2:=S6.own.fr 2;have F3:=S6.own.fr 3;have F4:=S6.own.fr 4;have F5:=S6.own.fr 5;have PH:=Ip (S6.own.put (a':=.bool false) (b':=.slice none 0 0) (c':=.slice none 0 0) (d':=.bool false) (e':=.slice none 0 0) (f':=.slice none 0 0) nofun nofun nofun nofun nofun nofun)
     have HBX:=Ip S6.bl;go_wp2;have q0:=PH.out.1.cell 0;have q1:=PH.out.1.cell 1;have q2:=PH.out.1.cell 2;have q3:=PH.out.1.cell 3;have q4:=PH.out.1.cell 4;have q5:=PH.out.1.cell 5;unfold eU at q0 q1 q2 q3 q4 q5;refine LM (v:=.tuple #[iX,.bool false]) (by simp[results,Tryz.results87,go_sem,q0,q1,q2,q3,q4,q5,iX]) rfl ⟨_,_,rfl,Or.inr ⟨?_,rfl,rfl⟩,PH.out.2.2 w HBX.out (Iw _)⟩;unfold ix;rw[if_neg (by rw[bJ];omega),hp.out];simp only[HPX.out,HQY.out]
   ·have HPX:=Ip hpx;clear hpx;have hb3:Below w2.heap.size w2 (w2.alloc (.cells #[.bool false,.slice none 0 0,.slice none 0 0] 89)):=(LN _ _).alloc (Iw _) _;have S3:=S2.below hb3;clear hb3 S2;have K0:=S3.own.cell 0;have K1:=S3.own.cell 1;have K2:=S3.own.cell 2;have K3:=S3.own.cell 3;have K4:=S3.own.cell 4;have K5:=S3.own.cell 5;have F0:=S3.own.fr 0;have F1:=S3.own.fr 1;have F2:=S3.own.fr 2;have F3:=S3.own.fr 3;have F4:=S3.own.fr 4;have F5:=S3.own.fr 5;have PH:=Ip (S3.own.put (a':=.bool false) (b':=.slice none 0 0) (c':=.slice none 0 0) (d':=.bool false) (e':=.slice none 0 0) (f':=.slice none 0 0) nofun nofun nofun nofun nofun nofun);have HBX:=Ip S3.bl;go_wp2;have q0:=PH.out.1.cell 0;have q1:=PH.out.1.cell 1;have q2:=PH.out.1.cell 2;have q3:=PH.out.1.cell 3;have q4:=PH.out.1.cell 4;have q5:=PH.out.1.cell 5;unfold eU at q0 q1 q2 q3 q4 q5;refine LM (v:=.tuple #[iX,.bool false]) (by simp[results,Tryz.results87,go_sem,q0,q1,q2,q3,q4,q5,iX]) rfl ⟨_,_,rfl,Or.inr ⟨?_,rfl,rfl⟩,PH.out.2.2 w HBX.out (Iw _)⟩;unfold ix;rw[if_neg (by rw[bJ];omega),hp.out];simp only[HPX.out]
open Dg Dc
/-! ### texts -/
theorem AS {d:Nat} (h:d<RR):dec (RR+d)=49 :: low 4 d:=by
 have:=kQ 4 (RR+d) (by unfold RR;omega);rw[this,show (RR+d) / 10 ^ 4=1 from by unfold RR at *;omega,show (RR+d) % 10 ^ 4=d from by unfold RR at *;omega];rw[ez (by decide)];rfl
theorem vh {l:List Nat}{k:Nat} (hl:∀ d∈l,d<RR) (h0:0<k) (hk:k<=l.length) (hv:0<val RR (l.drop k)):dec (val RR (l.drop (k-1)))=dec (val RR (l.drop k))++low 4 (nth l (k-1)):=by
 have hd:=cH (j:=k-1) hl;rw[drop_one h0 hk];rw[kQ 4 (nth l (k-1)+RR*val RR (l.drop k)) (by unfold RR at *;omega)];rw[show (nth l (k-1)+RR*val RR (l.drop k)) / 10 ^ 4=val RR (l.drop k) from by unfold RR at *;omega,show (nth l (k-1)+RR*val RR (l.drop k)) % 10 ^ 4=nth l (k-1) from by unfold RR at *;omega]
theorem xw {l:List Nat} (h:0<l.length):val RR (l.drop (l.length-1))=nth l (l.length-1):=by
 rw[drop_one (by omega) (Iw _),K_];simp[val]
theorem Dx {l:List Nat} (hl:CR l) (h:0<l.length):0<nth l (l.length-1):=by
 have hne:l≠[]:=IU.1 h;have:=hl.2 hne;rw[eF l _ (by omega)];rw[KU] at this;omega
theorem BV {l:List Nat} (hl:CR l) (h:0<l.length):(dec (val RR l)).length=4*(l.length-1)+(dec (nth l (l.length-1))).length:=by
 have key:∀ k,k<=l.length-1->(dec (val RR (l.drop (l.length-1-k)))).length=4*k+(dec (nth l (l.length-1))).length/\0<val RR (l.drop (l.length-1-k)):=by
  intro k
  induction k with
  | zero=>intro _;rw[JY,xw h];exact⟨by omega,Dx hl h⟩
  | succ k ih =>
   intro hk;obtain⟨i1,i2⟩:=ih (by omega);have:=vh (l:=l) (k:=l.length-1-k) hl.1 (by omega) (by omega) i2;rw[show l.length-1-(k+1)=l.length-1-k-1 from by omega];rw[this,IG,jI,i1];refine⟨by omega,?_⟩;rw[drop_one (by omega) (by omega)];have:0<RR*val RR (l.drop (l.length-1-k)):=IH (by decide) i2;omega
 have:=(key (l.length-1) (Iw _)).1;rw[JJ,IA] at this;exact this
structure o8 (n m:Nat) (s:List UInt8):Prop where
 eq:dec n=(if m=0 then [] else dec m)++s
theorem vo {n:Nat} (h:0<n):o8 n n []:=⟨by rw[if_neg (by omega),Ju]⟩
theorem xV {n m:Nat}{s:List UInt8} (h:o8 n m s) (hm:0<m):o8 n (m / 10) (dg (m % 10) :: s):=by
 have he:=h.eq;rw[if_neg (by omega)] at he;refine⟨?_⟩;rw[he];by_cases h10:m<10
 ·rw[ez h10,if_pos (by omega),show m % 10=m from by omega];rfl
 ·rw[jA (by omega),if_neg (by omega),I_];rfl
theorem AU {n:Nat}{s:List UInt8} (h:o8 n 0 s):s=dec n:=by have:=h.eq;simpa using this.symm
/-! ### reading -/
/-- how many digits a text begins with, m at most -/
def dV:List UInt8->Nat->Nat
 | [],_=>0
 | _ :: _,0=>0
 | c :: s,m+1=>if bj c then dV s m+1 else 0
theorem e_:∀ (s:List UInt8) (m:Nat),dV s m<=m/\dV s m<=s.length
 | [],m=>by simp[dV]
 | _ :: _,0=>by simp[dV]
 | c :: s,m+1=>by
  rw[dV];have:=e_ s m
  split
  ·simp only[IT];omega
  ·simp
theorem jb:∀ (s:List UInt8) (m:Nat),(s.take (dV s m)).all bj=true
 | [],m=>by simp[dV]
 | _ :: _,0=>by simp[dV]
 | c :: s,m+1=>by
  rw[dV]
  split
  ·rename_i h
   rw[Ix,KE,h,jb s m];rfl
  ·rfl
theorem kP:∀ (s:List UInt8) (m i:Nat),i<=dV s m->(i<dV s m↔(i<m/\∃ h:i<s.length,bj s[i]=true))
 | [],m,i,h=>by simp[dV] at *
 | c :: s,0,i,h=>by simp[dV] at *
 | c :: s,m+1,0,h=>by
  rw[dV]
  split
  ·rename_i hc;simp[hc]
  ·rename_i hc;simp[hc]
 | c :: s,m+1,i+1,h=>by
  rw[dV] at h |-
  split at h
  ·rename_i hc
   rw[if_pos hc];have:=kP s m i (by omega);simp only[IT,Is];constructor
   ·intro hi;obtain⟨a,b,c⟩:=this.1 (by omega);exact⟨by omega,by omega,c⟩
   ·rintro⟨a,b,c⟩;have:=this.2 ⟨by omega,by omega,c⟩;omega
  ·omega
def dM (s:List UInt8):Nat×List UInt8:=(aX (s.take (dV s 2001)),s.drop (dV s 2001))
def cS (s:List UInt8):Rt×List UInt8 :=
 if dV s 2001=0 then (⟨false,1,1⟩,s)
 else if (dM s).2.head?=some 47/\(dM ((dM s).2.drop 1)).1≠0 then (dP false (dM s).1 (dM ((dM s).2.drop 1)).1,(dM ((dM s).2.drop 1)).2)
 else (⟨false,(dM s).1,1⟩,(dM s).2)
def qM (r:Rt):Rt:=⟨!r.minus&&decide (r.n≠0),r.n,r.d⟩
def cD (s:List UInt8):Rt×List UInt8 :=
 if s.head?=some 45 then (qM (cS (s.drop 1)).1,(cS (s.drop 1)).2)
 else if s.head?=some 43 then cS (s.drop 1) else cS s
def fN:Rt:=⟨false,0,1⟩
def aW (s:List UInt8):Vl :=
 if (cD s).2=[105] then ⟨fN,(cD s).1⟩
 else if (cD s).2=[] then ⟨(cD s).1,fN⟩
 else ⟨(cD s).1,(cD (cD s).2).1⟩
def rOK (s:List UInt8):Bool:=decide (bX (aW s)=s)&&!(dt (aW s).x||dt (aW s).y)
def lB (s:List UInt8):Bool:=rOK s&&decide ((aW s).y.n=0)
def eV (r:Rt):Bool:=decide (r.n<=4096)&&decide (r.d<=4096)
def CK (s:List UInt8):Bool:=lB s&&(rOK s&&eV (aW s).x&&eV (aW s).y)
structure xH (s t:List UInt8) (lo:List Nat):Prop where
 ex:∃ r,s=t++r/\r.all bj=true/\aX r=Dg.val RR lo/\(t≠[]->r.length=4*lo.length)
 dig:∀ d∈lo,d<RR
 few:4*lo.length<=s.length+3
theorem Gc (s:List UInt8):xH s s []:=⟨⟨[],by simp,rfl,rfl,fun _=>rfl⟩,by simp,by simp⟩
theorem Ho {s t:List UInt8}{lo:List Nat}{k:Nat} (h:xH s t lo) (hk:k=t.length-4) (hne:t≠[]) (hd:(t.drop k).all bj=true) :
  xH s (t.take k) (lo++[aX (t.drop k)]):=by
 obtain⟨r,e1,e2,e3,e4⟩:=h.ex;have hr:=e4 hne;have hpos:=IU.2 hne;have hlen:(t.drop k).length<=4:=by rw[IP];omega
 have hlt:aX (t.drop k)<RR:=by
  have h1:=gZ _ hd;have h2:10 ^ (t.drop k).length<=10 ^ 4:=IQ (by omega) hlen;have h3:(10:Nat) ^ 4=RR:=by decide
  omega
 refine⟨⟨t.drop k++r,?_,?_,?_,?_⟩,?_,?_⟩
 ·rw[<-I_,Lf];exact e1
 ·rw[JW,hd,e2];rfl
 ·rw[eW,e3,eI,hr];have:(10:Nat) ^ (4*lo.length)=RR ^ lo.length:=by rw[JP];rfl
  rw[this,IM];omega
 ·intro hk2;have:k≠0:=by intro e;rw[e] at hk2;simp at hk2
  simp only[IG,IP,IT,Jn];omega
 ·intro d hd;rcases Jo.1 hd with hd | hd
  ·exact h.dig d hd
  ·simp at hd;subst hd;exact hlt
 ·have:=h.few;have h5:s.length=t.length+r.length:=by rw[e1];simp
  simp only[IG,IT,Jn];omega
theorem Io {s:List UInt8}{lo:List Nat} (h:xH s [] lo):lean lo=aq RR (aX s):=by
 obtain⟨r,e1,e2,e3,_⟩:=h.ex;simp only[I8] at e1;subst e1;rw[e3];exact c_ aH h.dig
theorem DK {t:List UInt8}{k i n:Nat} (h:NIn t k i n) (hk:k=t.length-4) (hi:i<=t.length):n<10000:=by
 have h1:=gZ _ h.all;have h2:10 ^ ((t.drop k).take (i-k)).length<=10 ^ 4:=IQ (by omega) (by rw[IY,IP];omega);have h3:(10:Nat) ^ 4=10000:=by decide
 rw[h.eq];omega
open Go.RowKit Dg Dc
theorem Fm {d:Nat} (h:d<10):Utf8.encode (48+(d:Int))=⟨#[dg d]⟩:=by
 match d,h with
 | 0,_=>rfl
 | 1,_=>rfl
 | 2,_=>rfl
 | 3,_=>rfl
 | 4,_=>rfl
 | 5,_=>rfl
 | 6,_=>rfl
 | 7,_=>rfl
 | 8,_=>rfl
 | 9,_=>rfl
theorem o8.len {n m:Nat}{s:List UInt8} (h:o8 n m s):s.length<=(dec n).length:=by
 rw[h.eq,IG];omega
theorem kg (n:Nat) (hn:n<1000000000) (w:World) :
  Calls Tryz.prog 227 #[.int .i64 n] w fun e w'=>∃ t:ByteArray,e=.returned (.string t)/\Hid (t.data.toList=dec n)/\w'=w:=by
 have hdl:(dec n).length<=9:=bK (by omega) (by omega);by_cases h0:n=0
 ·subst h0;go_enter Tryz.func227,Tryz.ntmps227;go_wp2;go_ret;exact⟨_,rfl,by unfold Hid;rw[ez (by decide)];rfl,rfl⟩
 ·have hne:((n:Int) == 0)=false:=by simp;omega
  have hlt0:decide ((n:Int)<0)=false:=by simp
  have HP:Hid (0<n):=by unfold Hid;omega
  have HDL:=Ip hdl;clear h0 hdl;go_enter Tryz.func227,Tryz.ntmps227;go_wp2
  go_loop [0,3] (fun s0 s3=>∃ (m:Nat) (t:ByteArray),s0=.int .i64 m/\m<=n/\s3=.string t/\Hid (o8 n m t.data.toList)) (fun s0 _=>(intOf s0).toNat)
  case atStart=>exact⟨n,_,rfl,Iw _,rfl,vo HP.out⟩
  case round =>
   obtain⟨m,t,rfl,hm,rfl,hst⟩:=hrel;by_cases hm0:m=0
   ·subst hm0;have hend:=Ip (AU hst.out);clear hst hne;go_wp2;go_ret;exact⟨t,rfl,hend.out,rfl⟩
   ·have hmne:((m:Int) != 0)=true:=by simp;omega
    have hts:t.size<=9:=by
     have h1:=hst.out.len;have h2:=HDL.out;simp at h1;omega
    have hr:(m:Int).tmod 10=((m % 10:Nat):Int):=by rw[JN (by omega)];omega
    have hq:(m:Int).tdiv 10=((m / 10:Nat):Int):=by rw[Jy (by omega)];omega
    have hlt:decide ((m:Int).tmod 10<0)=false:=by rw[hr];exact decide_eq_false (by omega)
    have hlt2:decide ((m:Int) % 10<0)=false:=decide_eq_false (by omega);have hst2:=Ip (xV hst.out (show 0<m by omega))
    have henc:Utf8.encode (48+(m:Int) % 10)=⟨#[dg (m % 10)]⟩:=by
     have:=Fm (show m % 10<10 by omega)
     rwa [show ((m % 10:Nat):Int)=(m:Int) % 10 by omega] at this
    clear hst hne;go_wp2
    go_round
    case rel=>exact⟨m / 10,_,by go_num,by omega,rfl,by unfold Hid;have:=hst2.out;simpa using this⟩
    case measure=>simp[intOf];omega
theorem AT:(dec 0).length=1:=by rw[ez (by decide)];rfl
theorem fJ {t:ByteArray}{l:List UInt8} (h:t.data.toList=l):t.size=l.length:=by rw[<-h];simp
theorem yD (k:Nat):RR ^ k=10 ^ (4*k):=by rw[JP];rfl
theorem DE (v:Value) (n:Nat) (w:World) (hv:IsD w v n) (hf:bu n) :
  Calls Tryz.prog 199 #[v] w fun e w'=>e=.returned (.int .i64 ((dec n).length:Nat))/\w'=w:=by
 obtain⟨p,cap,rfl,hlc,hcm,hcell⟩:=hv;unfold bu at hf;unfold maxLen at hcm;have hcan:=aQ n
 have hsz:Hid (0<(aq RR n).length->(dec n).length=4*((aq RR n).length-1)+(dec (nth (aq RR n) ((aq RR n).length-1))).length):=fun h=>by
  have:=BV hcan h
  rwa [aA aH] at this
 have hx:=cH (j:=(aq RR n).length-1) hcan.1;by_cases h0:(aq RR n).length=0
 ·have hn:n=0:=ju.1 h0;subst hn;have hd0:(((aq RR 0).length:Int) == 0)=true:=by rw[h0];rfl
  rw[AT];clear hcell hx h0;go_enter Tryz.func199,Tryz.ntmps199;go_wp2;go_ret;exact⟨rfl,rfl⟩
 ·obtain⟨b,o,rfl,hb,hc⟩:=hcell (by omega);have hc1:=hc ((aq RR n).length-1) (by omega);rw[hsz.out (by omega)];obtain⟨x,hxe⟩:∃ x,x=nth (aq RR n) ((aq RR n).length-1):=⟨_,rfl⟩;rw[<-hxe] at hc1 hx |-;rw[iL] at hx;have hd1:(dec x).length<=4:=bK (by omega) (by omega);obtain⟨N,hN⟩:∃ N,N=(aq RR n).length:=⟨_,rfl⟩;rw[<-hN] at hc1 h0 hlc hf |-;have hd0:((N:Int) == 0)=false:=by simp;omega
  clear hcell hc hxe hN hsz hcan;go_enter Tryz.func199,Tryz.ntmps199;go_wp2_with fail
  refine (kg x (by omega) w).mono ?_;rintro e w' ⟨t,rfl,ht,rfl⟩;have hts:t.size=(dec x).length:=fJ ht.out;obtain⟨L,hL⟩:∃ L,L=(dec x).length:=⟨_,rfl⟩;rw[<-hL] at hts hd1;have HL:=Ip hL;have hfin:Hid (4*((N:Int)-1)+(L:Int)=((4*(N-1)+L:Nat):Int)):=by unfold Hid;omega
  clear hL;go_wp2_with fail
  go_ret;refine⟨?_,rfl⟩;rw[<-HL.out,<-hfin.out];rfl
theorem CM {l:List Nat} (hl:∀ d∈l,d<RR) (hf:l.length<100000) (k:Nat):(dec (val RR (l.drop k))).length<=400004:=by
 have h1:=f9 RR (l.drop k) (fun d hd=>hl d (JB hd));rw[yD] at h1;have h2:=bK (k:=4*(l.drop k).length+1) (by omega) (Iz h1 (IQ (by omega) (by omega)));rw[IP] at h2;omega
theorem C5 {l:List Nat} (hl:CR l) {k:Nat} (hk:k<l.length):0<val RR (l.drop k):=by
 have hc:CR (l.drop k):=by
  refine⟨fun d hd=>hl.1 d (JB hd),fun hne=>?_⟩;rw[List.getLast_drop];exact hl.2 (IU.1 (by omega))
 have hne:l.drop k≠[]:=IU.1 (by rw[IP];omega);have:=ff hc hne;have h4:0<RR ^ ((l.drop k).length-1):=I9 (by decide);omega
theorem xX (v:Value) (n:Nat) (w:World) (hv:IsD w v n) (hf:bu n) :
  Calls Tryz.prog 226 #[v] w fun e w'=>∃ t:ByteArray,e=.returned (.string t)/\Hid (t.data.toList=dec n)/\t.size<=400004/\w'=w:=by
 obtain⟨p,cap,rfl,hlc,hcm,hcell⟩:=hv;unfold bu at hf;unfold maxLen at hcm;have hcan:=Ip (aQ n);have hval:=Ip (aA aH n);obtain⟨l,hle⟩:∃ l,l=aq RR n:=⟨_,rfl⟩;rw[<-hle] at hcan hval hcell hlc hf |-;by_cases h0:l.length=0
 ·have hn:n=0:=by rw[hle] at h0;exact ju.1 h0
  subst hn;have hd0:((l.length:Int) == 0)=true:=by rw[h0];rfl
  clear hcell h0 hle;go_enter Tryz.func226,Tryz.ntmps226;go_wp2;go_ret;exact⟨_,rfl,by unfold Hid;rw[ez (by decide)];rfl,by decide,rfl⟩
 ·clear hle;obtain⟨b,o,rfl,hb,hc⟩:=hcell (by omega);have HC:=Ip hc;have hc1:=hc (l.length-1) (by omega);have hx:=cH (j:=l.length-1) hcan.out.1;rw[iL] at hx;have hxv:Hid (val RR (l.drop (l.length-1))=nth l (l.length-1)):=xw (by omega);obtain⟨x,hxe⟩:∃ x,x=nth l (l.length-1):=⟨_,rfl⟩;rw[<-hxe] at hc1 hx hxv;have hd0:((l.length:Int) == 0)=false:=by simp;intro e;rw[e] at h0;exact h0 rfl
  have HP:0<l.length:=by omega
  have hsz:=Ip (fun k=>CM hcan.out.1 hf k);clear hcell hc hxe h0;go_enter Tryz.func226,Tryz.ntmps226;go_wp2_with fail
  refine (kg x (by omega) w).mono ?_;rintro e w' ⟨t0,rfl,ht0,rfl⟩;go_wp2_with fail
  go_loop [3,4] (fun s3 s4=>∃ (k:Nat) (t:ByteArray),k<l.length/\s3=.string t/\s4=.int .i64 ((k:Int)-1)/\Hid (t.data.toList=dec (val RR (l.drop k)))) (fun _ s4=>(intOf s4+1).toNat)
  case atStart=>exact⟨l.length-1,t0,by omega,rfl,by go_num,by unfold Hid;rw[hxv.out];exact ht0.out⟩
  case round =>
   clear hc1;obtain⟨k,t,hk,rfl,rfl,ht⟩:=hrel
   have hts:t.size<=400004:=by
    have h1:=fJ ht.out;have h2:=hsz.out k;omega
   by_cases hk0:k=0
   ·subst hk0;go_wp2;go_ret;exact⟨t,rfl,by have:=ht.out;rw[IA,hval.out] at this;exact this,hts,rfl⟩
   ·have hge:decide ((0:Int)<=(k:Int)-1)=true:=by simp;omega
    have hc2:=HC.out (k-1) (by omega);have hy:=cH (j:=k-1) hcan.out.1;have hstep:Hid (dec (val RR (l.drop (k-1)))=dec (val RR (l.drop k))++low 4 (nth l (k-1))):=vh hcan.out.1 (by omega) (by omega) (C5 hcan.out hk);have hrad:Hid (dec (RR+nth l (k-1))=49 :: low 4 (nth l (k-1))):=AS hy;rw[iL] at hy hrad;obtain⟨y,hye⟩:∃ y,y=nth l (k-1):=⟨_,rfl⟩;rw[<-hye] at hc2 hy hstep hrad;clear hye;go_wp2_with fail
    refine (kg (10000+y) (by omega) _).mono ?_;rintro e w2 ⟨t2,rfl,ht2,rfl⟩;have ht2l:=ht2.out;rw[hrad.out] at ht2l;have hs2:t2.size=5:=by have:=fJ ht2l;rw[IT,jI] at this;exact this
    have HT2:=Ip ht2l;clear ht2l hc2;go_wp2
    go_round
    case rel=>exact⟨k-1,_,by omega,rfl,by go_num,by
     have h1:=HT2.out;unfold Hid;rw[hstep.out,<-ht.out];simp[h1]
     exact IE (by rw[jI];omega)⟩
    case measure=>simp[intOf];omega
end Go.Proofs.YtlhpcoelfhjomaaGreatDoor
