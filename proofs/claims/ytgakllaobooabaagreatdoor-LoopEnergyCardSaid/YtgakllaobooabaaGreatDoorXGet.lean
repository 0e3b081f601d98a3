/- L -/
import Derived.BigQuiet
import Derived.WalkMore
import Derived.Deep.DeepCutAuto
import Derived.Deep.CutBlock
import Derived.Deep.CutRange
import Derived.Deep.RegionWith
import Derived.RegionTactic
import Derived.Test.YtgakllaobooabaaGreatDoorXRed
import Derived.Test.YtgakllaobooabaaGreatDoorXB
set_option linter.all false
set_option maxRecDepth 100000
set_option maxHeartbeats 8000000
namespace Go.Proofs.YtgakllaobooabaaGreatDoor
open Go.RowKit Dc Dg
def ck (t:List UInt8):Nat->Option Nat
 | 0=>none
 | k+1=>if t[k+1]?=some 43\/t[k+1]?=some 45 then some (k+1) else ck t k
def jK (t:List UInt8):List UInt8×List UInt8 :=
 match ck t (t.length-1) with
 | none=>([48],t)
 | some k=>(t.take k,Lib.trimPrefix (t.drop k) [43])
def dZ (s:List UInt8):List UInt8×List UInt8 :=
 if Lib.hasSuffix s [105]=true then
  (fun p:List UInt8×List UInt8=>(p.1,if p.2=[]\/p.2=[45] then p.2++[49] else p.2))
   (jK (Lib.trimSuffix s [105]))
 else (s,[48])
def eM (s:List UInt8):Option Vl :=
 if 8008<s.length then none else
 match bH (dZ s).1,bH (dZ s).2 with
 | some p,some q=>if cr ⟨p,q⟩=s/\cO p=false/\cO q=false then some ⟨p,q⟩ else none
 | _,_=>none
theorem jr {mi:Bool}{n d:Nat} (h:0<d):0<(cT mi n d).d:=by
 unfold cT
 split
 ·decide
 ·exact Dq (Di _ h) (Ci _ h)
theorem jZ {s:List UInt8}{r:Rt} (h:bH s=some r):0<r.d:=by
 unfold bH at h
 split at h
 ·cases h
 ·split at h
  ·split at h
   ·cases h
   ·split at h
    ·cases h
    ·rename_i h0;injection h with h;subst h;exact jr (by omega)
  ·injection h with h;subst h;exact jr (by decide)
structure bm (w:World) (k:Nat) (a b c d e f:Value):Prop where
 hp:w.heap[k]?=some (.cells #[a,b,c,d,e,f] 65 (0,0))
 na:∀ z,a≠.int .u64 z
 nb:∀ z,b≠.int .u64 z
 nc:∀ z,c≠.int .u64 z
 nd:∀ z,d≠.int .u64 z
 ne:∀ z,e≠.int .u64 z
 nf:∀ z,f≠.int .u64 z
theorem bm.lt {w:World}{k:Nat}{a b c d e f:Value} (h:bm w k a b c d e f):k<w.heap.size:=(AE.1 h.hp).1
theorem bm.cell {w:World}{k:Nat}{a b c d e f:Value} (h:bm w k a b c d e f) (j:Nat):w.cell? ⟨k,j,none⟩=#[a,b,c,d,e,f][j]?:=by rw[World.cell?,h.hp];rfl
theorem bm.fr {w:World}{k:Nat}{a b c d e f:Value} (h:bm w k a b c d e f) (j:Nat):w.frozen? ⟨k,j,none⟩=false:=by
 rw[World.frozen?,h.hp];simp
theorem bm.below {w w':World}{k:Nat}{a b c d e f:Value} (h:bm w k a b c d e f) (hb:Below w.heap.size w w'):bm w' k a b c d e f :=
 ⟨by rw[hb.block k h.lt];exact h.hp,h.na,h.nb,h.nc,h.nd,h.ne,h.nf⟩
theorem bm.new (w:World) (a b c d e f:Value) (na:∀ z,a≠.int .u64 z) (nb:∀ z,b≠.int .u64 z) (nc:∀ z,c≠.int .u64 z) (nd:∀ z,d≠.int .u64 z) (ne:∀ z,e≠.int .u64 z) (nf:∀ z,f≠.int .u64 z):bm (w.alloc (.cells #[a,b,c,d,e,f] 65)) w.heap.size a b c d e f :=
 ⟨heap_alloc_new w _,na,nb,nc,nd,ne,nf⟩
theorem bm.other {w:World}{k:Nat}{a b c d e f:Value} (h:bm w k a b c d e f) {v:Value}{l:List Nat} (hv:IsU w v l) (j:Nat) (u:Value):IsU (w.setCell ⟨k,j,none⟩ u) v l:=by
 obtain⟨p,cap,e1,h1,h2,h3⟩:=hv
 refine⟨p,cap,e1,h1,h2,fun hl=>?_⟩
 obtain⟨b',o,e2,hlt,hc⟩:=h3 hl
 have hne:b'≠k:=by
  intro e3
  subst e3
  have h0:=hc 0 hl
  rw[h.cell] at h0
  match o+0,h0 with
  | 0,h0=>simp at h0;exact h.na _ h0
  | 1,h0=>simp at h0;exact h.nb _ h0
  | 2,h0=>simp at h0;exact h.nc _ h0
  | 3,h0=>simp at h0;exact h.nd _ h0
  | 4,h0=>simp at h0;exact h.ne _ h0
  | 5,h0=>simp at h0;exact h.nf _ h0
  | n+6,h0=>simp at h0
 refine⟨b',o,e2,by simpa[World.setCell] using hlt,fun i hi=>?_⟩
 rw[World.cell?_setCell_other _ _ _ _ (by intro e3;exact hne (congrArg Addr.block e3).symm)]
 exact hc i hi
theorem ln {P:Program}{f:FuncId}{args:Array Value}{w:World}{n m:Nat}{v:Value}
  (h:Calls P f args (w.drewN (n+m)) fun e w'=>e=.returned v/\w'=w.drewN (n+m)):Calls P f args (w.drewN (n+m)) fun e w''=>e=.returned v/\∃ k,w''=w.drewN (n+k) :=
 h.mono fun _ _ ⟨he,hm⟩=>⟨he,m,hm⟩
theorem j5 (s p:ByteArray) (w:World) :
  Calls Tryz.prog 57 #[.string s,.string p] w fun e w'=>e=.returned (.string ⟨(Lib.trimPrefix s.data.toList p.data.toList).toArray⟩)/\w'=w:=by
 refine (Tryz.strings_TrimPrefix s p w).mono ?_;rintro e w' ⟨rfl,rfl⟩;exact⟨rfl,rfl⟩
theorem qz (s p:ByteArray) (w:World) (hs:s.size<=9223372036854775807) :
  Calls Tryz.prog 56 #[.string s,.string p] w fun e w'=>∃ (t:ByteArray) (b:Bool),e=.returned (.tuple #[.string t,.bool b])/\Hid (Lib.hasSuffix s.data.toList p.data.toList=b)/\Hid (t.data.toList=Lib.trimSuffix s.data.toList p.data.toList)/\t.size<=s.size/\w=w':=by
 refine (qA s p w hs).mono ?_;rintro e w' ⟨t,rfl,h1,h2,h3⟩;exact⟨t,_,rfl,rfl,h1,h2,h3⟩
def cP (w:World) (k:Nat) (a b c d e f:Value):World :=
 (((((w.setCell ⟨k,0,none⟩ a).setCell ⟨k,1,none⟩ b).setCell ⟨k,2,none⟩ c).setCell ⟨k,3,none⟩ d).setCell ⟨k,4,none⟩ e).setCell ⟨k,5,none⟩ f
theorem bm.put {w:World}{k:Nat}{a b c d e f a' b' c' d' e' f':Value} (h:bm w k a b c d e f) (na:∀ z,a'≠.int .u64 z) (nb:∀ z,b'≠.int .u64 z) (nc:∀ z,c'≠.int .u64 z) (nd:∀ z,d'≠.int .u64 z) (ne:∀ z,e'≠.int .u64 z) (nf:∀ z,f'≠.int .u64 z) :
  bm (cP w k a' b' c' d' e' f') k a' b' c' d' e' f' /\
  (∀ v l,IsU w v l->IsU (cP w k a' b' c' d' e' f') v l) /\
  ∀ w0,Below w0.heap.size w0 w->w0.heap.size<=k->Below w0.heap.size w0 (cP w k a' b' c' d' e' f'):=by
 have h1:bm (w.setCell ⟨k,0,none⟩ a') k a' b c d e f:=⟨by rw[heap_setCell_same w k 0 #[a,b,c,d,e,f] _ a' h.hp];rfl,na,h.nb,h.nc,h.nd,h.ne,h.nf⟩;have h2:bm ((w.setCell ⟨k,0,none⟩ a').setCell ⟨k,1,none⟩ b') k a' b' c d e f:=⟨by rw[heap_setCell_same _ k 1 #[a',b,c,d,e,f] _ b' h1.hp];rfl,na,nb,h.nc,h.nd,h.ne,h.nf⟩;have h3:bm (((w.setCell ⟨k,0,none⟩ a').setCell ⟨k,1,none⟩ b').setCell ⟨k,2,none⟩ c') k a' b' c' d e f:=⟨by rw[heap_setCell_same _ k 2 #[a',b',c,d,e,f] _ c' h2.hp];rfl,na,nb,nc,h.nd,h.ne,h.nf⟩;have h4:bm ((((w.setCell ⟨k,0,none⟩ a').setCell ⟨k,1,none⟩ b').setCell ⟨k,2,none⟩ c').setCell ⟨k,3,none⟩ d') k a' b' c' d' e f:=⟨by rw[heap_setCell_same _ k 3 #[a',b',c',d,e,f] _ d' h3.hp];rfl,na,nb,nc,nd,h.ne,h.nf⟩;have h5:bm (((((w.setCell ⟨k,0,none⟩ a').setCell ⟨k,1,none⟩ b').setCell ⟨k,2,none⟩ c').setCell ⟨k,3,none⟩ d').setCell ⟨k,4,none⟩ e') k a' b' c' d' e' f:=⟨by rw[heap_setCell_same _ k 4 #[a',b',c',d',e,f] _ e' h4.hp];rfl,na,nb,nc,nd,ne,h.nf⟩;have h6:bm (cP w k a' b' c' d' e' f') k a' b' c' d' e' f':=⟨by unfold cP;rw[heap_setCell_same _ k 5 #[a',b',c',d',e',f] _ f' h5.hp];rfl,na,nb,nc,nd,ne,nf⟩;refine⟨h6,fun v l hv=>h5.other (h4.other (h3.other (h2.other (h1.other (h.other hv 0 a') 1 b') 2 c') 3 d') 4 e') 5 f',fun w0 hb hk=>?_⟩;exact (((((hb.setCell (p:=⟨k,0,none⟩) hk _).setCell (p:=⟨k,1,none⟩) hk _).setCell (p:=⟨k,2,none⟩) hk _).setCell (p:=⟨k,3,none⟩) hk _).setCell (p:=⟨k,4,none⟩) hk _).setCell (p:=⟨k,5,none⟩) hk _
structure GSt (w0 w:World) (k:Nat):Prop where
 own:bm w k (.bool false) (.slice none 0 0) (.slice none 0 0) (.bool false) (.slice none 0 0) (.slice none 0 0)
 hG:Gw w
 bl:Below w0.heap.size w0 w
theorem GSt.below {w0 w w':World}{k:Nat} (h:GSt w0 w k) (hb:Below w.heap.size w w'):GSt w0 w' k :=
 ⟨h.own.below hb,h.hG.below hb,h.bl.trans (hb.mono h.bl.size)⟩
def fh:Value:=.agg #[.bool false,.slice none 0 0,.slice none 0 0,.bool false,.slice none 0 0,.slice none 0 0]
def xH (s:List UInt8) (w:World) (e:Ending) (w':World):Prop :=
 ∃ v ok,e=.returned (.tuple #[v,.bool ok])/\((∃ z,eM s=some z/\ok=true/\IsV w' v z)\/(eM s=none/\ok=false/\v=fh))/\Below w.heap.size w w'
theorem pP {t:List UInt8}{m:Nat} (h:t[m+1]?=some 43\/t[m+1]?=some 45):ck t (m+1)=some (m+1):=by
 unfold ck;rw[if_pos h]
theorem pO {t:List UInt8}{m:Nat} (h:¬ (t[m+1]?=some 43\/t[m+1]?=some 45)):ck t (m+1)=ck t m:=by
 rw[ck,if_neg h]
theorem kp {t:ByteArray}{k:Nat} (h:k<t.size) {c:UInt8}:t.data.toList[k]?=some c↔((t[k].toNat:Nat):Int)=(c.toNat:Nat):=by
 rw[AL (by rw[aQ];exact h),Option.some_inj]
 show t[k]=c↔_
 constructor
 ·intro e;rw[e]
 ·intro e;exact UInt8.toNat_inj.1 (by omega)
theorem wt {t:ByteArray}{k:Nat} (h0:0<k) (h:k<t.size) (h1:¬ ((t[k].toNat:Nat):Int)=43) (h2:¬ ((t[k].toNat:Nat):Int)=45):ck t.data.toList k=ck t.data.toList (k-1):=by
 obtain⟨m,rfl⟩:∃ m,k=m+1:=⟨k-1,by omega⟩;exact pO (fun hh=>hh.elim (fun e=>h1 ((kp h).1 e)) (fun e=>h2 ((kp h).1 e)))
theorem wB {t:ByteArray}{k m:Nat} (hs:ck t.data.toList m=ck t.data.toList k) (hm:m=t.data.toList.length-1) (h0:0<k) (h:k<t.size) (h1:((t[k].toNat:Nat):Int)=43\/((t[k].toNat:Nat):Int)=45) {x y:List UInt8} (hx:x=t.data.toList.take k) (hy:y=Lib.trimPrefix (t.data.toList.drop k) [43]):Hid (jK t.data.toList=(x,y)):=by
 subst hm;obtain⟨m,rfl⟩:∃ m,k=m+1:=⟨k-1,by omega⟩;unfold Hid jK;rw[hs,pP (h1.elim (fun e=>Or.inl ((kp h).2 e)) (fun e=>Or.inr ((kp h).2 e))),hx,hy]
theorem mv {t:ByteArray}{k m:Nat}{w0 wz:World} (hs:ck t.data.toList m=ck t.data.toList k) (h0:0<k) (h:k<t.size) (h1:((t[k].toNat:Nat):Int)=43\/((t[k].toNat:Nat):Int)=45) (hts:t.size<=9000) (hz:∃ n,wz=w0.drewN n) (hm:m=t.data.toList.length-1:=by rfl) :
  ∃ x y n,Value.string (t.extract 0 k)=Value.string x/\Value.string ⟨(Lib.trimPrefix (t.extract k t.size).data.toList [43]).toArray⟩=Value.string y/\Hid (jK t.data.toList=(x.data.toList,y.data.toList))/\x.size<=9000/\y.size<=9000/\wz=w0.drewN n:=by
 obtain⟨n,rfl⟩:=hz
 have hd:(t.extract k t.size).data.toList=t.data.toList.drop k:=by
  rw[ByteArray.data_extract,Array.toList_extract,List.extract_eq_take_drop,AK (by simp)]
 refine⟨_,_,n,rfl,rfl,wB hs hm h0 h h1 (fV t k) (by rw[hd]),?_,?_,rfl⟩
 ·rw[<-aQ,fV,A6];omega
 ·rw[ie,hd]
  have:(Lib.trimPrefix (t.data.toList.drop k) [43]).length<=(t.data.toList.drop k).length:=by
   unfold Lib.trimPrefix;split
   ·rw[Ba];omega
   ·exact AA _
  rw[Ba,aQ] at this;omega
theorem mI {s:List UInt8}{t x y:ByteArray} (h1:Lib.hasSuffix s [105]=true) (h2:t.data.toList=Lib.trimSuffix s [105]) (h3:jK t.data.toList=(x.data.toList,y.data.toList)) (h4:y.data.toList=[]\/y.data.toList=[45]) :
  Hid (dZ s=(x.data.toList,(y++(⟨#[49]⟩:ByteArray)).data.toList)):=by
 unfold Hid dZ;rw[if_pos h1,<-h2,h3];simp only[if_pos h4];simp
theorem qT {s:List UInt8}{t x y:ByteArray} (h1:Lib.hasSuffix s [105]=true) (h2:t.data.toList=Lib.trimSuffix s [105]) (h3:jK t.data.toList=(x.data.toList,y.data.toList)) (h4:¬ y.data.toList=[]) (h5:¬ y.data.toList=[45]) :
  Hid (dZ s=(x.data.toList,y.data.toList)):=by
 unfold Hid dZ;rw[if_pos h1,<-h2,h3];simp only;rw[if_neg (fun h=>h.elim h4 h5)]
theorem sD {y:ByteArray} (h:y.size<=9000):(y++(⟨#[49]⟩:ByteArray)).size<=10000:=by
 rw[ByteArray.size_append];have:(⟨#[49]⟩:ByteArray).size=1:=rfl;omega
structure Tri (w:World) (k:Nat) (a b c:Value):Prop where
 lt:k<w.heap.size
 c0:w.cell? ⟨k,0,none⟩=some a
 c1:w.cell? ⟨k,1,none⟩=some b
 c2:w.cell? ⟨k,2,none⟩=some c
theorem Tri.below {w w':World}{k:Nat}{a b c:Value} (h:Tri w k a b c) (hb:Below w.heap.size w w'):Tri w' k a b c :=
 ⟨AD h.lt hb.size,(hb.cell (p:=⟨k,0,none⟩) h.lt).trans h.c0,(hb.cell (p:=⟨k,1,none⟩) h.lt).trans h.c1,(hb.cell (p:=⟨k,2,none⟩) h.lt).trans h.c2⟩
theorem Tri.new (w:World) (a b c:Value) (T:TypeId):Tri (w.alloc (.cells #[a,b,c] T)) w.heap.size a b c :=
 ⟨by simp,ap w _ T 0 _ rfl,ap w _ T 1 _ rfl,ap w _ T 2 _ rfl⟩
theorem vL {w:World}{a b c d e f:Value}{p q:Rt} (h1:IsR w (.agg #[a,b,c]) p) (h2:IsR w (.agg #[d,e,f]) q):IsV w (.agg #[a,b,c,d,e,f]) ⟨p,q⟩:=⟨a,b,c,d,e,f,rfl,h1,h2⟩
theorem IsR.keep {w w':World}{v:Value}{r:Rt} (h:IsR w v r) (hk:∀ v l,IsU w v l->IsU w' v l):IsR w' v r:=by
 obtain⟨vn,vd,e,h1,h2,h3,h4⟩:=h;exact⟨vn,vd,e,hk _ _ h1,hk _ _ h2,h3,h4⟩
theorem bigB (va:Value) (r:Rt) (w:World) (ha:IsR w va r) (hG:Gw w) :
  Calls Tryz.prog 60 #[va] w fun e w'=>∃ b:Bool,e=.returned (.bool b)/\Hid (cO r=b)/\Below w.heap.size w w':=by
 refine (m_ va r w ha hG).mono ?_;rintro e w' ⟨rfl,hb⟩;exact⟨_,rfl,rfl,hb⟩
structure HSt (w0 w:World) (k k1 k2 k3:Nat) (a b c d e f:Value):Prop where
 g:GSt w0 w k
 t1:Tri w k1 a b c
 t2:Tri w k2 d e f
 v:aW w k3 a b c d e f
theorem HSt.below {w0 w w':World}{k k1 k2 k3:Nat}{a b c d e f:Value} (h:HSt w0 w k k1 k2 k3 a b c d e f) (hb:Below w.heap.size w w'):HSt w0 w' k k1 k2 k3 a b c d e f :=
 ⟨h.g.below hb,h.t1.below hb,h.t2.below hb,h.v.below hb⟩
theorem ib (s:ByteArray) (w:World) (hG:Gw w) :
  Calls Tryz.prog 31 #[.string s] w (xH s.data.toList w):=by
 have hb0:Below w.heap.size w (w.alloc (.cells #[.bool false,.slice none 0 0,.slice none 0 0,.bool false,.slice none 0 0,.slice none 0 0] 65)):=(Dv _ _).alloc (AA _) _
 have S0:GSt w (w.alloc (.cells #[.bool false,.slice none 0 0,.slice none 0 0,.bool false,.slice none 0 0,.slice none 0 0] 65)) w.heap.size :=
  ⟨bm.new w _ _ _ _ _ _ nofun nofun nofun nofun nofun nofun,hG.below hb0,hb0⟩
 clear hG hb0;by_cases hlong:8008<s.size
 ·have hq:decide ((8008:Int)<(s.size:Int))=true:=by simp;omega
  have HL:=At hlong;clear hlong;go_enter Tryz.func31,Tryz.ntmps31;have q0:=S0.own.cell 0;have q1:=S0.own.cell 1;have q2:=S0.own.cell 2;have q3:=S0.own.cell 3;have q4:=S0.own.cell 4;have q5:=S0.own.cell 5;go_wp2_with fail
  refine Du (v:=.tuple #[fh,.bool false]) (by simp[results,Tryz.results31,go_sem,q0,q1,q2,q3,q4,q5,fh]) rfl ⟨_,_,rfl,Or.inr ⟨?_,rfl,rfl⟩,S0.bl⟩;unfold eM;rw[if_pos (by rw[aQ];exact HL.out)]
 ·have hq:decide ((8008:Int)<(s.size:Int))=false:=by simp;omega
  have hsz:s.size<=8008:=by omega
  clear hlong;go_enter Tryz.func31,Tryz.ntmps31;go_wp2_with fail
  generalize w.alloc (.cells #[.bool false,.slice none 0 0,.slice none 0 0,.bool false,.slice none 0 0,.slice none 0 0] 65)=w0 at S0 |-;refine (qz _ _ w0 (by omega)).mono ?_;rintro e w1 ⟨t,sx,rfl,hsx,ht,hts,rfl⟩
  go_upto_if 25 with fail
  go_cut [5,6,9] from 26 to 54 (fun s5 s6 s9 wx=>∃ (x y:ByteArray) (n:Nat),s5=.string x/\s6=.string y/\Hid (dZ s.data.toList=(x.data.toList,y.data.toList))/\x.size<=10000/\y.size<=10000/\wx=w0.drewN n)
  case first =>
   cases sx
   ·have HS:=At hsx.out;go_wp2;go_meet;exact⟨s,⟨#[48]⟩,0,rfl,rfl,by unfold Hid dZ;rw[if_neg (by rw[HS.out];exact B4)],by omega,by decide,rfl⟩
   ·have HS:=At hsx.out;go_wp2_with fail
    go_step3
    go_wp2_with fail
    go_step3
    go_upto_block 0 with fail
    go_cut [5,6,9] from 30 to 46 (fun s5 s6 s9 wx=>∃ (x y:ByteArray) (n:Nat),s5=.string x/\s6=.string y/\Hid (jK t.data.toList=(x.data.toList,y.data.toList))/\x.size<=9000/\y.size<=9000/\wx=w0.drewN n)
    case first =>
     go_wp2_with fail
     go_loopg [5,6,9] (t.size-1) (fun g s5 s6 s9 wq=>∃ (z:Int) (n:Nat),s5=.string ⟨#[48]⟩/\s6=.string t/\s9=.int .i64 z/\(z=(g:Int)\/(g=0/\z=-1))/\g<=t.size-1/\Hid (ck t.data.toList (t.data.toList.length-1)=ck t.data.toList g)/\wq=w0.drewN n)
     case atStart=>exact⟨_,0,rfl,rfl,rfl,by omega,AA _,by rw[aQ];rfl,rfl⟩
     case round =>
      obtain⟨z,n,rfl,rfl,rfl,hz,hgt,hsig,rfl⟩:=hrel;by_cases hg0:gk=0
      ·have hz0:z<=0:=by omega
       have HZ:=At hg0;clear hg0 hz hgt;go_wp2;go_meet;exact⟨_,_,n,rfl,rfl,by have h1:=hsig.out;rw[HZ.out] at h1;unfold Hid jK;rw[h1];rfl,by decide,by omega,rfl⟩
      ·obtain rfl:z=(gk:Int):=by omega
       have hlt:gk<t.size:=by omega
       have hpos:0<gk:=by omega
       have hle:gk<=t.size:=by omega
       have hleI:(gk:Int)<=(t.size:Int):=by omega
       have hleD:decide ((gk:Int)<=(t.size:Int))=true:=by simp;omega
       clear hg0 hz;by_cases hc:((t[gk].toNat:Nat):Int)=43
       ·have q1:(((t[gk].toNat:Nat):Int) == 43)=true:=by simp[hc]
        have HC:=At hc;clear hc;go_wp2_with fail
        go_quiet ((go_at_call 57;exact ln (j5 _ _ _)))
        go_wp2;go_meet;exact mv hsig.out hpos hlt (Or.inl HC.out) (by omega) ⟨_,by first | rfl | rw[World.drewN_drewN]⟩
       ·have q1:(((t[gk].toNat:Nat):Int) == 43)=false:=by simp[hc]
        have HC:=At hc;clear hc;by_cases hc:((t[gk].toNat:Nat):Int)=45
        ·have q2:(((t[gk].toNat:Nat):Int) == 45)=true:=by simp[hc]
         have HC2:=At hc;clear hc;go_wp2_with fail
         go_quiet ((go_at_call 57;exact ln (j5 _ _ _)))
         go_wp2;go_meet;exact mv hsig.out hpos hlt (Or.inr HC2.out) (by omega) ⟨_,by first | rfl | rw[World.drewN_drewN]⟩
        ·have q2:(((t[gk].toNat:Nat):Int) == 45)=false:=by simp[hc]
         have HC2:=At hc;clear hc;go_wp2_with fail
         go_roundg (gk-1)
         case measure=>omega
         case rel=>exact⟨_,n,rfl,rfl,rfl,by omega,by omega,by have h1:=hsig.out;unfold Hid;rw[h1];exact wt hpos hlt HC.out HC2.out,rfl⟩
    case rest =>
     obtain⟨x,y,n,rfl,rfl,hpre,hxs,hys,rfl⟩:=hcut;by_cases h1:y.toList=[]
     ·have q1:(y.toList == [])=true:=by rw[h1];rfl
      have h1':=At h1;clear h1;go_wp2;rw[Exit.noGoto_normal];go_wp2;go_meet;exact⟨_,_,n,rfl,rfl,mI HS.out ht.out hpre.out (Or.inl (by rw[<-ak];exact h1'.out)),by omega,sD hys,rfl⟩
     ·have q1:(y.toList == [])=false:=by simpa using h1
      have h1':=At h1;clear h1;by_cases h2:y.toList=[45]
      ·have q2:(y.toList == [45])=true:=by rw[h2];rfl
       have h2':=At h2;clear h2;go_wp2;rw[Exit.noGoto_normal];go_wp2;go_meet;exact⟨_,_,n,rfl,rfl,mI HS.out ht.out hpre.out (Or.inr (by rw[<-ak];exact h2'.out)),by omega,sD hys,rfl⟩
      ·have q2:(y.toList == [45])=false:=by simpa using h2
       have h2':=At h2;clear h2;go_wp2;rw[Exit.noGoto_normal];go_wp2;go_meet;exact⟨_,_,n,rfl,rfl,qT HS.out ht.out hpre.out (fun e=>h1'.out (by rw[ak];exact e)) (fun e=>h2'.out (by rw[ak];exact e)),by omega,by omega,rfl⟩
  case rest =>
   obtain⟨x,y,n,rfl,rfl,hp,hxs,hys,rfl⟩:=hcut;have S1:GSt w (w0.drewN n) w.heap.size:=S0.below (below_drewN (Dv _ _) n);clear S0;go_wp2_with fail
   refine (lj x _ (by omega) S1.hG).mono ?_;rintro e w2 ⟨v,ok,rfl,hcase,hb2⟩;have S2:=S1.below hb2;clear S1 hb2;rcases hcase with ⟨p,hpx,rfl,hR⟩ | ⟨hpx,rfl,rfl⟩
   ·have HPX:=At hpx;clear hpx;have hR':=hR;obtain⟨vn,vd,rfl,hn,hd,_,_⟩:=hR';obtain⟨pn,cn,rfl,_,_,_⟩:=hn;obtain⟨pd,cd,rfl,_,_,_⟩:=hd;have hb3:Below w2.heap.size w2 (w2.alloc (.cells #[.bool p.minus,.slice pn (ag BB p.n).length cn,.slice pd (ag BB p.d).length cd] 63)):=(Dv _ _).alloc (AA _) _;have S3:=S2.below hb3;have T3:=Tri.new w2 (.bool p.minus) (.slice pn (ag BB p.n).length cn) (.slice pd (ag BB p.d).length cd) 63;have HR:=At (hR.below hb3);clear hb3 S2 hR;go_wp2_with fail
    generalize w2.alloc (.cells #[.bool p.minus,.slice pn (ag BB p.n).length cn,.slice pd (ag BB p.d).length cd] 63)=w3 at S3 T3 HR |-;refine (lj y _ (by omega) S3.hG).mono ?_;rintro e w4 ⟨v,ok,rfl,hcase,hb4⟩;have S4:=S3.below hb4;have T4:=T3.below hb4;have HR4:=At (HR.out.below hb4);clear S3 T3 HR hb4;rcases hcase with ⟨q,hqy,rfl,hQ⟩ | ⟨hqy,rfl,rfl⟩
    ·have HQY:=At hqy;clear hqy;have hQ':=hQ;obtain⟨vn,vd,rfl,hn,hd,_,_⟩:=hQ';obtain⟨qn,dn,rfl,_,_,_⟩:=hn;obtain⟨qd,dd,rfl,_,_,_⟩:=hd;have hb5:Below w4.heap.size w4 (w4.alloc (.cells #[.bool q.minus,.slice qn (ag BB q.n).length dn,.slice qd (ag BB q.d).length dd] 63)):=(Dv _ _).alloc (AA _) _;have hb6:Below (w4.alloc (.cells #[.bool q.minus,.slice qn (ag BB q.n).length dn,.slice qd (ag BB q.d).length dd] 63)).heap.size (w4.alloc (.cells #[.bool q.minus,.slice qn (ag BB q.n).length dn,.slice qd (ag BB q.d).length dd] 63)) ((w4.alloc (.cells #[.bool q.minus,.slice qn (ag BB q.n).length dn,.slice qd (ag BB q.d).length dd] 63)).alloc (.cells #[.bool p.minus,.slice pn (ag BB p.n).length cn,.slice pd (ag BB p.d).length cd,.bool q.minus,.slice qn (ag BB q.n).length dn,.slice qd (ag BB q.d).length dd] 65)):=(Dv _ _).alloc (AA _) _;have S5:=S4.below hb5;have T5:=T4.below hb5;have U5:=Tri.new w4 (.bool q.minus) (.slice qn (ag BB q.n).length dn) (.slice qd (ag BB q.d).length dd) 63;have c0:=T5.c0;have c1:=T5.c1;have c2:=T5.c2;have d0:=U5.c0;have d1:=U5.c1;have d2:=U5.c2;have S6:=S5.below hb6;have T6:=T5.below hb6;have U6:=U5.below hb6;have V6:=aW.new (w4.alloc (.cells #[.bool q.minus,.slice qn (ag BB q.n).length dn,.slice qd (ag BB q.d).length dd] 63)) (.bool p.minus) (.slice pn (ag BB p.n).length cn) (.slice pd (ag BB p.d).length cd) (.bool q.minus) (.slice qn (ag BB q.n).length dn) (.slice qd (ag BB q.d).length dd) 65
     have e0:=V6.c0;have e1:=V6.c1;have e2:=V6.c2;have e3:=V6.c3;have e4:=V6.c4;have e5:=V6.c5;have HP6:=At ((HR4.out.below hb5).below hb6);have HQ6:=At ((hQ.below hb5).below hb6);clear hb5 hb6 hQ S4 T4 S5 T5 U5 HR4;go_wp2_with fail
     clear c0 c1 c2 d0 d1 d2 e0 e1 e2 e3 e4 e5;have HS6:HSt w ((w4.alloc (.cells #[.bool q.minus,.slice qn (ag BB q.n).length dn,.slice qd (ag BB q.d).length dd] 63)).alloc (.cells #[.bool p.minus,.slice pn (ag BB p.n).length cn,.slice pd (ag BB p.d).length cd,.bool q.minus,.slice qn (ag BB q.n).length dn,.slice qd (ag BB q.d).length dd] 65)) w.heap.size w2.heap.size w4.heap.size (w4.heap.size+1) _ _ _ _ _ _:=⟨S6,T6,U6,by have h:=V6;rw[show (w4.alloc (.cells #[.bool q.minus,.slice qn (ag BB q.n).length dn,.slice qd (ag BB q.d).length dd] 63)).heap.size=w4.heap.size+1 from by simp] at h;exact h⟩;clear S6 T6 U6 V6;generalize (w4.alloc (.cells #[.bool q.minus,.slice qn (ag BB q.n).length dn,.slice qd (ag BB q.d).length dd] 63)).alloc (.cells #[.bool p.minus,.slice pn (ag BB p.n).length cn,.slice pd (ag BB p.d).length cd,.bool q.minus,.slice qn (ag BB q.n).length dn,.slice qd (ag BB q.d).length dd] 65)=w6 at HS6 HP6 HQ6 |-;refine (mW _ ⟨p,q⟩ _ (vL HP6.out HQ6.out) (jZ HPX.out) (jZ HQY.out) HS6.g.hG).mono ?_;rintro e w7 ⟨tt,rfl,htt,htts,hb7⟩;have S7:=HS6.below hb7;have HP7:=At (HP6.out.below hb7);have HQ7:=At (HQ6.out.below hb7);clear HS6 HP6 HQ6 hb7;have c0:=S7.t1.c0;have c1:=S7.t1.c1;have c2:=S7.t1.c2;have d0:=S7.t2.c0;have d1:=S7.t2.c1;have d2:=S7.t2.c2;by_cases heq:tt.toList=s.toList
     ·have z1:(tt.toList == s.toList)=true:=by simp[heq]
      have z2:(tt.toList != s.toList)=false:=by simp[heq]
      have z3:decide (tt.toList=s.toList)=true:=by simp[heq]
      have HEQ:=At heq;clear heq;go_wp2_with fail
      refine (bigB _ p _ (by exact HP7.out) S7.g.hG).mono ?_;rintro e w8 ⟨bp,rfl,hbp,hb8⟩;have S8:=S7.below hb8;have HP8:=At (HP7.out.below hb8);have HQ8:=At (HQ7.out.below hb8);clear S7 HP7 HQ7 hb8 c0 c1 c2 d0 d1 d2;have d0:=S8.t2.c0;have d1:=S8.t2.c1;have d2:=S8.t2.c2
      cases bp
      ·have HBP:=At hbp.out;clear hbp;go_wp2_with fail
       refine (bigB _ q _ (by exact HQ8.out) S8.g.hG).mono ?_;rintro e w9 ⟨bq,rfl,hbq,hb9⟩;have S9:=S8.below hb9;have HP9:=At (HP8.out.below hb9);have HQ9:=At (HQ8.out.below hb9);clear S8 HP8 HQ8 hb9 d0 d1 d2
       cases bq
       ·have HBQ:=At hbq.out;clear hbq;have e0:=S9.v.c0;have e1:=S9.v.c1;have e2:=S9.v.c2;have e3:=S9.v.c3;have e4:=S9.v.c4;have e5:=S9.v.c5;have K0:=S9.g.own.cell 0;have K1:=S9.g.own.cell 1;have K2:=S9.g.own.cell 2;have K3:=S9.g.own.cell 3;have K4:=S9.g.own.cell 4;have K5:=S9.g.own.cell 5;have F0:=S9.g.own.fr 0;have F1:=S9.g.own.fr 1;have F2:=S9.g.own.fr 2;have F3:=S9.g.own.fr 3;have F4:=S9.g.own.fr 4;have F5:=S9.g.own.fr 5;have PH:=At (S9.g.own.put (a':=.bool p.minus) (b':=.slice pn (ag BB p.n).length cn) (c':=.slice pd (ag BB p.d).length cd) (d':=.bool q.minus) (e':=.slice qn (ag BB q.n).length dn) (f':=.slice qd (ag BB q.d).length dd) nofun nofun nofun nofun nofun nofun);have HBX:=At S9.g.bl;go_wp2;have q0:=PH.out.1.cell 0;have q1:=PH.out.1.cell 1;have q2:=PH.out.1.cell 2;have q3:=PH.out.1.cell 3;have q4:=PH.out.1.cell 4;have q5:=PH.out.1.cell 5;unfold cP at q0 q1 q2 q3 q4 q5;refine Du (v:=.tuple #[.agg #[.bool p.minus,.slice pn (ag BB p.n).length cn,.slice pd (ag BB p.d).length cd,.bool q.minus,.slice qn (ag BB q.n).length dn,.slice qd (ag BB q.d).length dd],.bool true]) (by simp[results,Tryz.results31,go_sem,q0,q1,q2,q3,q4,q5]) rfl ⟨_,_,rfl,Or.inl ⟨Vl.mk p q,?_,rfl,vL (IsR.keep HP9.out PH.out.2.1) (IsR.keep HQ9.out PH.out.2.1)⟩,PH.out.2.2 w HBX.out (AA _)⟩;unfold eM;rw[if_neg (by rw[aQ];omega),hp.out];simp only[HPX.out,HQY.out]
        rw[if_pos ⟨by rw[<-htt.out,<-ak,<-ak];exact HEQ.out,HBP.out,HBQ.out⟩]
       ·have HBQ:=At hbq.out;clear hbq;have K0:=S9.g.own.cell 0;have K1:=S9.g.own.cell 1;have K2:=S9.g.own.cell 2;have K3:=S9.g.own.cell 3;have K4:=S9.g.own.cell 4;have K5:=S9.g.own.cell 5;have F0:=S9.g.own.fr 0;have F1:=S9.g.own.fr 1;have F2:=S9.g.own.fr 2;have F3:=S9.g.own.fr 3;have F4:=S9.g.own.fr 4;have F5:=S9.g.own.fr 5;have PH:=At (S9.g.own.put (a':=.bool false) (b':=.slice none 0 0) (c':=.slice none 0 0) (d':=.bool false) (e':=.slice none 0 0) (f':=.slice none 0 0) nofun nofun nofun nofun nofun nofun);have HBX:=At S9.g.bl;go_wp2;have q0:=PH.out.1.cell 0;have q1:=PH.out.1.cell 1;have q2:=PH.out.1.cell 2;have q3:=PH.out.1.cell 3;have q4:=PH.out.1.cell 4;have q5:=PH.out.1.cell 5;unfold cP at q0 q1 q2 q3 q4 q5;refine Du (v:=.tuple #[fh,.bool false]) (by simp[results,Tryz.results31,go_sem,q0,q1,q2,q3,q4,q5,fh]) rfl ⟨_,_,rfl,Or.inr ⟨?_,rfl,rfl⟩,PH.out.2.2 w HBX.out (AA _)⟩;unfold eM;rw[if_neg (by rw[aQ];omega),hp.out];simp only[HPX.out,HQY.out];rw[if_neg (fun h=>by rw[HBQ.out] at h;exact Bool.noConfusion h.2.2)]
      ·have HBP:=At hbp.out;clear hbp;have K0:=S8.g.own.cell 0;have K1:=S8.g.own.cell 1;have K2:=S8.g.own.cell 2;have K3:=S8.g.own.cell 3;have K4:=S8.g.own.cell 4;have K5:=S8.g.own.cell 5;have F0:=S8.g.own.fr 0;have F1:=S8.g.own.fr 1;have F2:=S8.g.own.fr 2;have F3:=S8.g.own.fr 3;have F4:=S8.g.own.fr 4;have F5:=S8.g.own.fr 5;have PH:=At (S8.g.own.put (a':=.bool false) (b':=.slice none 0 0) (c':=.slice none 0 0) (d':=.bool false) (e':=.slice none 0 0) (f':=.slice none 0 0) nofun nofun nofun nofun nofun nofun);have HBX:=At S8.g.bl;go_wp2;have q0:=PH.out.1.cell 0;have q1:=PH.out.1.cell 1;have q2:=PH.out.1.cell 2;have q3:=PH.out.1.cell 3;have q4:=PH.out.1.cell 4;have q5:=PH.out.1.cell 5;unfold cP at q0 q1 q2 q3 q4 q5;refine Du (v:=.tuple #[fh,.bool false]) (by simp[results,Tryz.results31,go_sem,q0,q1,q2,q3,q4,q5,fh]) rfl ⟨_,_,rfl,Or.inr ⟨?_,rfl,rfl⟩,PH.out.2.2 w HBX.out (AA _)⟩;unfold eM;rw[if_neg (by rw[aQ];omega),hp.out];simp only[HPX.out,HQY.out];rw[if_neg (fun h=>by rw[HBP.out] at h;exact Bool.noConfusion h.2.1)]
     ·have z1:(tt.toList == s.toList)=false:=by simp[heq]
      have z2:(tt.toList != s.toList)=true:=by simp[heq]
      have z3:decide (tt.toList=s.toList)=false:=by simp[heq]
      have HEQ:=At heq;clear heq;have K0:=S7.g.own.cell 0;have K1:=S7.g.own.cell 1;have K2:=S7.g.own.cell 2;have K3:=S7.g.own.cell 3;have K4:=S7.g.own.cell 4;have K5:=S7.g.own.cell 5;have F0:=S7.g.own.fr 0;have F1:=S7.g.own.fr 1;have F2:=S7.g.own.fr 2;have F3:=S7.g.own.fr 3;have F4:=S7.g.own.fr 4;have F5:=S7.g.own.fr 5;have PH:=At (S7.g.own.put (a':=.bool false) (b':=.slice none 0 0) (c':=.slice none 0 0) (d':=.bool false) (e':=.slice none 0 0) (f':=.slice none 0 0) nofun nofun nofun nofun nofun nofun);have HBX:=At S7.g.bl;go_wp2;have q0:=PH.out.1.cell 0;have q1:=PH.out.1.cell 1;have q2:=PH.out.1.cell 2;have q3:=PH.out.1.cell 3;have q4:=PH.out.1.cell 4;have q5:=PH.out.1.cell 5;unfold cP at q0 q1 q2 q3 q4 q5;refine Du (v:=.tuple #[fh,.bool false]) (by simp[results,Tryz.results31,go_sem,q0,q1,q2,q3,q4,q5,fh]) rfl ⟨_,_,rfl,Or.inr ⟨?_,rfl,rfl⟩,PH.out.2.2 w HBX.out (AA _)⟩;unfold eM;rw[if_neg (by rw[aQ];omega),hp.out];simp only[HPX.out,HQY.out];rw[if_neg (fun h=>HEQ.out (by rw[ak,ak,htt.out];exact h.1))]
    ·have HQY:=At hqy;clear hqy;have hb5:Below w4.heap.size w4 (w4.alloc (.cells #[.bool false,.slice none 0 0,.slice none 0 0] 63)):=(Dv _ _).alloc (AA _) _;have hb6:Below (w4.alloc (.cells #[.bool false,.slice none 0 0,.slice none 0 0] 63)).heap.size (w4.alloc (.cells #[.bool false,.slice none 0 0,.slice none 0 0] 63)) ((w4.alloc (.cells #[.bool false,.slice none 0 0,.slice none 0 0] 63)).alloc (.cells #[.bool p.minus,.slice pn (ag BB p.n).length cn,.slice pd (ag BB p.d).length cd,.bool false,.slice none 0 0,.slice none 0 0] 65)):=(Dv _ _).alloc (AA _) _;have S5:=S4.below hb5;have T5:=T4.below hb5;have U5:=Tri.new w4 (.bool false) (.slice none 0 0) (.slice none 0 0) 63;have c0:=T5.c0;have c1:=T5.c1;have c2:=T5.c2;have d0:=U5.c0;have d1:=U5.c1;have d2:=U5.c2;have S6:=S5.below hb6;have T6:=T5.below hb6;have U6:=U5.below hb6;have V6:=aW.new (w4.alloc (.cells #[.bool false,.slice none 0 0,.slice none 0 0] 63)) (.bool p.minus) (.slice pn (ag BB p.n).length cn) (.slice pd (ag BB p.d).length cd) (.bool false) (.slice none 0 0) (.slice none 0 0) 65;have e0:=V6.c0;have e1:=V6.c1;have e2:=V6.c2;have e3:=V6.c3;have e4:=V6.c4;have e5:=V6.c5;clear hb5 hb6 S4 T4 S5 T5 U5 T6 U6 V6;have K0:=S6.own.cell 0;have K1:=S6.own.cell 1;have K2:=S6.own.cell 2;have K3:=S6.own.cell 3;have K4:=S6.own.cell 4;have K5:=S6.own.cell 5;have F0:=S6.own.fr 0;have F1:=S6.own.fr 1;have F2:=S6.own.fr 2;have F3:=S6.own.fr 3;have F4:=S6.own.fr 4;have F5:=S6.own.fr 5;have PH:=At (S6.own.put (a':=.bool false) (b':=.slice none 0 0) (c':=.slice none 0 0) (d':=.bool false) (e':=.slice none 0 0) (f':=.slice none 0 0) nofun nofun nofun nofun nofun nofun)
     have HBX:=At S6.bl;go_wp2;have q0:=PH.out.1.cell 0;have q1:=PH.out.1.cell 1;have q2:=PH.out.1.cell 2;have q3:=PH.out.1.cell 3;have q4:=PH.out.1.cell 4;have q5:=PH.out.1.cell 5;unfold cP at q0 q1 q2 q3 q4 q5;refine Du (v:=.tuple #[fh,.bool false]) (by simp[results,Tryz.results31,go_sem,q0,q1,q2,q3,q4,q5,fh]) rfl ⟨_,_,rfl,Or.inr ⟨?_,rfl,rfl⟩,PH.out.2.2 w HBX.out (AA _)⟩;unfold eM;rw[if_neg (by rw[aQ];omega),hp.out];simp only[HPX.out,HQY.out]
   ·have HPX:=At hpx;clear hpx;have hb3:Below w2.heap.size w2 (w2.alloc (.cells #[.bool false,.slice none 0 0,.slice none 0 0] 63)):=(Dv _ _).alloc (AA _) _;have S3:=S2.below hb3;clear hb3 S2;have K0:=S3.own.cell 0;have K1:=S3.own.cell 1;have K2:=S3.own.cell 2;have K3:=S3.own.cell 3;have K4:=S3.own.cell 4;have K5:=S3.own.cell 5;have F0:=S3.own.fr 0;have F1:=S3.own.fr 1;have F2:=S3.own.fr 2;have F3:=S3.own.fr 3;have F4:=S3.own.fr 4;have F5:=S3.own.fr 5;have PH:=At (S3.own.put (a':=.bool false) (b':=.slice none 0 0) (c':=.slice none 0 0) (d':=.bool false) (e':=.slice none 0 0) (f':=.slice none 0 0) nofun nofun nofun nofun nofun nofun);have HBX:=At S3.bl;go_wp2;have q0:=PH.out.1.cell 0;have q1:=PH.out.1.cell 1;have q2:=PH.out.1.cell 2;have q3:=PH.out.1.cell 3;have q4:=PH.out.1.cell 4;have q5:=PH.out.1.cell 5;unfold cP at q0 q1 q2 q3 q4 q5;refine Du (v:=.tuple #[fh,.bool false]) (by simp[results,Tryz.results31,go_sem,q0,q1,q2,q3,q4,q5,fh]) rfl ⟨_,_,rfl,Or.inr ⟨?_,rfl,rfl⟩,PH.out.2.2 w HBX.out (AA _)⟩;unfold eM;rw[if_neg (by rw[aQ];omega),hp.out];simp only[HPX.out]
end Go.Proofs.YtgakllaobooabaaGreatDoor
