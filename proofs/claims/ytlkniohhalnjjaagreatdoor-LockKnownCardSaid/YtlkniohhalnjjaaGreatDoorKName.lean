/- Lemmas of this claim. -/
import Derived.Test.YtlkniohhalnjjaaGreatDoorKCoef
set_option linter.all false
set_option maxRecDepth 100000
set_option maxHeartbeats 8000000
namespace Go.Proofs.YtlkniohhalnjjaaGreatDoor
open Go.RowKit Dc Dg
def aA (i:Nat) (c:UInt8):Bool :=
 decide ((97≤(c.toNat:Int)∧(c.toNat:Int)≤122)∨(i≠0∧((c.toNat:Int)=95∨(48≤(c.toNat:Int)∧(c.toNat:Int)≤57))))
def dz:List UInt8→Nat→Bool
 | [],_=>true
 | c :: l,i=>aA i c&&dz l (i+1)
def cF (s:List UInt8):Bool:=dz s 0&&decide (1≤s.length)&&decide (s.length≤16)
theorem aE {l:List UInt8}{i:Nat} (h:i<l.length):dz (l.drop i) i=(aA i l[i]&&dz (l.drop (i+1)) (i+1)):=by
 rw[uR h];rfl
def pO (s:List UInt8) (w:World) (e:Ending) (w':World):Prop:=∃ b:Bool,e=.returned (.bool b)∧Hid (cF s=b)∧w'=w
theorem sV (s:ByteArray) (w:World) (hs:s.size≤9223372036854775806) :
  Calls Tryz.prog 37 #[.string s] w (pO s.data.toList w):=by
 go_enter Tryz.func37,Tryz.ntmps37
 go_wp2_with fail
 go_loopw [8] (fun s8 wr=>∃ i:Nat,s8=.int .i64 i∧i≤s.size∧Hid (dz s.data.toList 0=dz (s.data.toList.drop i) i)∧wr=w) (fun s8 _=>s.size-(intOf s8).toNat)
 case atStart=>exact⟨0,rfl,by omega,rfl,rfl⟩
 case round =>
  obtain⟨i,rfl,hi,hx,rfl⟩:=hrel
  by_cases hil:i<s.size
  ·have hl:i<s.data.toList.length:=by rw[az];exact hil
   have hbyte:Hid (s.data.toList[i]=s[i]):=rfl
   have HI:=uk hi
   clear hi
   rcases (by omega:(97≤(s[i].toNat:Int)∧(s[i].toNat:Int)≤122)∨(122<(s[i].toNat:Int)∧i=0)∨(122<(s[i].toNat:Int)∧0<i)∨((s[i].toNat:Int)<48∧i=0)∨((s[i].toNat:Int)<48∧0<i)∨(48≤(s[i].toNat:Int)∧(s[i].toNat:Int)≤57∧i=0)∨(48≤(s[i].toNat:Int)∧(s[i].toNat:Int)≤57∧0<i)∨(57<(s[i].toNat:Int)∧(s[i].toNat:Int)<95∧i=0)∨(57<(s[i].toNat:Int)∧(s[i].toNat:Int)<95∧0<i)∨((s[i].toNat:Int)=95∧i=0)∨((s[i].toNat:Int)=95∧0<i)∨((s[i].toNat:Int)=96∧i=0)∨((s[i].toNat:Int)=96∧0<i)) with h | h | h | h | h | h | h | h | h | h | h | h | h
   ·have hu:(97:Int)≤(s[i].toNat:Int):=by omega
    have hv:(s[i].toNat:Int)≤122:=by omega
    have hvd:decide ((s[i].toNat:Int)≤122)=true:=by simp;omega
    have hwd:decide ((s[i].toNat:Int)<48)=false:=by simp;omega
    have hxd:decide ((57:Int)<(s[i].toNat:Int))=true:=by simp;omega
    have hby:aA i s[i]=true:=by unfold aA;first | exact decide_eq_true (by omega) | exact decide_eq_false (by omega)
    have HBY:=uk hby
    clear h hby
    go_wp2
    go_roundw
    case rel=>exact⟨i+1,by go_num,by omega,by unfold Hid;rw[hx.out,aE hl,hbyte.out,HBY.out];rfl,trivial⟩
    case measure=>simp[intOf];omega
   ·have hz:((i:Int) == 0)=true:=by simp;omega
    have hq:((s[i].toNat:Int) == 95)=false:=by simp;omega
    have hq2:((s[i].toNat:Int) != 95)=true:=by simp;omega
    have hu:(97:Int)≤(s[i].toNat:Int):=by omega
    have hv:(122:Int)<(s[i].toNat:Int):=by omega
    have hvd:decide ((s[i].toNat:Int)≤122)=false:=by simp;omega
    have hwd:decide ((s[i].toNat:Int)<48)=false:=by simp;omega
    have hxd:decide ((57:Int)<(s[i].toNat:Int))=true:=by simp;omega
    have hg:(57:Int)<(s[i].toNat:Int):=by omega
    have hg2:¬ (s[i].toNat:Int)<48:=by omega
    have hby:aA i s[i]=false:=by unfold aA;first | exact decide_eq_true (by omega) | exact decide_eq_false (by omega)
    have HBY:=uk hby
    clear h hby
    go_wp2
    go_ret
    exact⟨false,rfl,by unfold Hid cF;rw[hx.out,aE hl,hbyte.out,HBY.out];rfl,rfl⟩
   ·have hz:((i:Int) == 0)=false:=by simp;omega
    have hq:((s[i].toNat:Int) == 95)=false:=by simp;omega
    have hq2:((s[i].toNat:Int) != 95)=true:=by simp;omega
    have hu:(97:Int)≤(s[i].toNat:Int):=by omega
    have hv:(122:Int)<(s[i].toNat:Int):=by omega
    have hvd:decide ((s[i].toNat:Int)≤122)=false:=by simp;omega
    have hwd:decide ((s[i].toNat:Int)<48)=false:=by simp;omega
    have hxd:decide ((57:Int)<(s[i].toNat:Int))=true:=by simp;omega
    have hg:(57:Int)<(s[i].toNat:Int):=by omega
    have hg2:¬ (s[i].toNat:Int)<48:=by omega
    have hby:aA i s[i]=false:=by unfold aA;first | exact decide_eq_true (by omega) | exact decide_eq_false (by omega)
    have HBY:=uk hby
    clear h hby
    go_wp2
    go_ret
    exact⟨false,rfl,by unfold Hid cF;rw[hx.out,aE hl,hbyte.out,HBY.out];rfl,rfl⟩
   ·have hz:((i:Int) == 0)=true:=by simp;omega
    have hq:((s[i].toNat:Int) == 95)=false:=by simp;omega
    have hq2:((s[i].toNat:Int) != 95)=true:=by simp;omega
    have hu:(s[i].toNat:Int)<97:=by omega
    have hg:(s[i].toNat:Int)<48:=by omega
    have hwd:decide ((s[i].toNat:Int)<48)=true:=by simp;omega
    have hxd:decide ((57:Int)<(s[i].toNat:Int))=false:=by simp;omega
    have hby:aA i s[i]=false:=by unfold aA;first | exact decide_eq_true (by omega) | exact decide_eq_false (by omega)
    have HBY:=uk hby
    clear h hby
    go_wp2
    go_ret
    exact⟨false,rfl,by unfold Hid cF;rw[hx.out,aE hl,hbyte.out,HBY.out];rfl,rfl⟩
   ·have hz:((i:Int) == 0)=false:=by simp;omega
    have hq:((s[i].toNat:Int) == 95)=false:=by simp;omega
    have hq2:((s[i].toNat:Int) != 95)=true:=by simp;omega
    have hu:(s[i].toNat:Int)<97:=by omega
    have hg:(s[i].toNat:Int)<48:=by omega
    have hwd:decide ((s[i].toNat:Int)<48)=true:=by simp;omega
    have hxd:decide ((57:Int)<(s[i].toNat:Int))=false:=by simp;omega
    have hby:aA i s[i]=false:=by unfold aA;first | exact decide_eq_true (by omega) | exact decide_eq_false (by omega)
    have HBY:=uk hby
    clear h hby
    go_wp2
    go_ret
    exact⟨false,rfl,by unfold Hid cF;rw[hx.out,aE hl,hbyte.out,HBY.out];rfl,rfl⟩
   ·have hz:((i:Int) == 0)=true:=by simp;omega
    have hq:((s[i].toNat:Int) == 95)=false:=by simp;omega
    have hq2:((s[i].toNat:Int) != 95)=true:=by simp;omega
    have hu:(s[i].toNat:Int)<97:=by omega
    have hg:¬ (s[i].toNat:Int)<48:=by omega
    have hg2:(s[i].toNat:Int)≤57:=by omega
    have hwd:decide ((s[i].toNat:Int)<48)=false:=by simp;omega
    have hxd:decide ((57:Int)<(s[i].toNat:Int))=false:=by simp;omega
    have hby:aA i s[i]=false:=by unfold aA;first | exact decide_eq_true (by omega) | exact decide_eq_false (by omega)
    have HBY:=uk hby
    clear h hby
    go_wp2
    go_ret
    exact⟨false,rfl,by unfold Hid cF;rw[hx.out,aE hl,hbyte.out,HBY.out];rfl,rfl⟩
   ·have hz:((i:Int) == 0)=false:=by simp;omega
    have hq:((s[i].toNat:Int) == 95)=false:=by simp;omega
    have hq2:((s[i].toNat:Int) != 95)=true:=by simp;omega
    have hu:(s[i].toNat:Int)<97:=by omega
    have hg:¬ (s[i].toNat:Int)<48:=by omega
    have hg2:(s[i].toNat:Int)≤57:=by omega
    have hwd:decide ((s[i].toNat:Int)<48)=false:=by simp;omega
    have hxd:decide ((57:Int)<(s[i].toNat:Int))=false:=by simp;omega
    have hby:aA i s[i]=true:=by unfold aA;first | exact decide_eq_true (by omega) | exact decide_eq_false (by omega)
    have HBY:=uk hby
    clear h hby
    go_wp2
    go_roundw
    case rel=>exact⟨i+1,by go_num,by omega,by unfold Hid;rw[hx.out,aE hl,hbyte.out,HBY.out];rfl,trivial⟩
    case measure=>simp[intOf];omega
   ·have hz:((i:Int) == 0)=true:=by simp;omega
    have hq:((s[i].toNat:Int) == 95)=false:=by simp;omega
    have hq2:((s[i].toNat:Int) != 95)=true:=by simp;omega
    have hu:(s[i].toNat:Int)<97:=by omega
    have hg:¬ (s[i].toNat:Int)<48:=by omega
    have hg2:(57:Int)<(s[i].toNat:Int):=by omega
    have hwd:decide ((s[i].toNat:Int)<48)=false:=by simp;omega
    have hxd:decide ((57:Int)<(s[i].toNat:Int))=true:=by simp;omega
    have hby:aA i s[i]=false:=by unfold aA;first | exact decide_eq_true (by omega) | exact decide_eq_false (by omega)
    have HBY:=uk hby
    clear h hby
    go_wp2
    go_ret
    exact⟨false,rfl,by unfold Hid cF;rw[hx.out,aE hl,hbyte.out,HBY.out];rfl,rfl⟩
   ·have hz:((i:Int) == 0)=false:=by simp;omega
    have hq:((s[i].toNat:Int) == 95)=false:=by simp;omega
    have hq2:((s[i].toNat:Int) != 95)=true:=by simp;omega
    have hu:(s[i].toNat:Int)<97:=by omega
    have hg:¬ (s[i].toNat:Int)<48:=by omega
    have hg2:(57:Int)<(s[i].toNat:Int):=by omega
    have hwd:decide ((s[i].toNat:Int)<48)=false:=by simp;omega
    have hxd:decide ((57:Int)<(s[i].toNat:Int))=true:=by simp;omega
    have hby:aA i s[i]=false:=by unfold aA;first | exact decide_eq_true (by omega) | exact decide_eq_false (by omega)
    have HBY:=uk hby
    clear h hby
    go_wp2
    go_ret
    exact⟨false,rfl,by unfold Hid cF;rw[hx.out,aE hl,hbyte.out,HBY.out];rfl,rfl⟩
   ·have hz:((i:Int) == 0)=true:=by simp;omega
    have hq:((s[i].toNat:Int) == 95)=true:=by simp;omega
    have hq2:((s[i].toNat:Int) != 95)=false:=by simp;omega
    have hu:(s[i].toNat:Int)<97:=by omega
    have hg:¬ (s[i].toNat:Int)<48:=by omega
    have hg2:(57:Int)<(s[i].toNat:Int):=by omega
    have hwd:decide ((s[i].toNat:Int)<48)=false:=by simp;omega
    have hxd:decide ((57:Int)<(s[i].toNat:Int))=true:=by simp;omega
    have hby:aA i s[i]=false:=by unfold aA;first | exact decide_eq_true (by omega) | exact decide_eq_false (by omega)
    have HBY:=uk hby
    clear h hby
    go_wp2
    go_ret
    exact⟨false,rfl,by unfold Hid cF;rw[hx.out,aE hl,hbyte.out,HBY.out];rfl,rfl⟩
   ·have hz:((i:Int) == 0)=false:=by simp;omega
    have hq:((s[i].toNat:Int) == 95)=true:=by simp;omega
    have hq2:((s[i].toNat:Int) != 95)=false:=by simp;omega
    have hu:(s[i].toNat:Int)<97:=by omega
    have hg:¬ (s[i].toNat:Int)<48:=by omega
    have hg2:(57:Int)<(s[i].toNat:Int):=by omega
    have hwd:decide ((s[i].toNat:Int)<48)=false:=by simp;omega
    have hxd:decide ((57:Int)<(s[i].toNat:Int))=true:=by simp;omega
    have hby:aA i s[i]=true:=by unfold aA;first | exact decide_eq_true (by omega) | exact decide_eq_false (by omega)
    have HBY:=uk hby
    clear h hby
    go_wp2
    go_roundw
    case rel=>exact⟨i+1,by go_num,by omega,by unfold Hid;rw[hx.out,aE hl,hbyte.out,HBY.out];rfl,trivial⟩
    case measure=>simp[intOf];omega
   ·have hz:((i:Int) == 0)=true:=by simp;omega
    have hq:((s[i].toNat:Int) == 95)=false:=by simp;omega
    have hq2:((s[i].toNat:Int) != 95)=true:=by simp;omega
    have hu:(s[i].toNat:Int)<97:=by omega
    have hg:¬ (s[i].toNat:Int)<48:=by omega
    have hg2:(57:Int)<(s[i].toNat:Int):=by omega
    have hwd:decide ((s[i].toNat:Int)<48)=false:=by simp;omega
    have hxd:decide ((57:Int)<(s[i].toNat:Int))=true:=by simp;omega
    have hby:aA i s[i]=false:=by unfold aA;first | exact decide_eq_true (by omega) | exact decide_eq_false (by omega)
    have HBY:=uk hby
    clear h hby
    go_wp2
    go_ret
    exact⟨false,rfl,by unfold Hid cF;rw[hx.out,aE hl,hbyte.out,HBY.out];rfl,rfl⟩
   ·have hz:((i:Int) == 0)=false:=by simp;omega
    have hq:((s[i].toNat:Int) == 95)=false:=by simp;omega
    have hq2:((s[i].toNat:Int) != 95)=true:=by simp;omega
    have hu:(s[i].toNat:Int)<97:=by omega
    have hg:¬ (s[i].toNat:Int)<48:=by omega
    have hg2:(57:Int)<(s[i].toNat:Int):=by omega
    have hwd:decide ((s[i].toNat:Int)<48)=false:=by simp;omega
    have hxd:decide ((57:Int)<(s[i].toNat:Int))=true:=by simp;omega
    have hby:aA i s[i]=false:=by unfold aA;first | exact decide_eq_true (by omega) | exact decide_eq_false (by omega)
    have HBY:=uk hby
    clear h hby
    go_wp2
    go_ret
    exact⟨false,rfl,by unfold Hid cF;rw[hx.out,aE hl,hbyte.out,HBY.out];rfl,rfl⟩
  ·have hie:i=s.size:=by omega
   subst hie
   clear hil hi
   have hend:dz s.data.toList 0=true:=by rw[hx.out,←az,wR];rfl
   have HE:=uk hend
   clear hend
   rcases (by omega:s.size<1∨(1≤s.size∧s.size≤16)∨16<s.size) with h | ⟨h,h2⟩ | h
   ·have h1:(s.size:Int)<1:=by omega
    have h1d:decide ((1:Int)≤(s.size:Int))=false:=by simp;omega
    go_wp2
    go_ret
    exact⟨false,by simp[h1d],by unfold Hid cF;rw[HE.out,decide_eq_false (by rw[az];omega)];rfl,rfl⟩
   ·have h1:(1:Int)≤(s.size:Int):=by omega
    have h1d:decide ((1:Int)≤(s.size:Int))=true:=by simp;omega
    have h2d:decide ((s.size:Int)≤16)=true:=by simp;omega
    go_wp2
    go_ret
    exact⟨true,by simp[h2d],by unfold Hid cF;rw[HE.out,decide_eq_true (by rw[az];omega:1≤s.data.toList.length),decide_eq_true (by rw[az];omega:s.data.toList.length≤16)];rfl,rfl⟩
   ·have h1:(1:Int)≤(s.size:Int):=by omega
    have h1d:decide ((1:Int)≤(s.size:Int))=true:=by simp;omega
    have h2d:decide ((s.size:Int)≤16)=false:=by simp;omega
    go_wp2
    go_ret
    exact⟨false,by simp[h2d],by unfold Hid cF;rw[HE.out,decide_eq_false (by rw[az];omega:¬ s.data.toList.length≤16)];simp,rfl⟩
theorem bK (n low high:Int) (w:World) :
  Calls Tryz.prog 27 #[.int .i64 n,.int .i64 low,.int .i64 high] w fun e w'=>∃ b:Bool,e=.returned (.bool b)∧Hid ((decide (low≤n)&&decide (n≤high))=b)∧w=w':=by
 refine (kU n low high w).mono ?_
 rintro e w' ⟨rfl,rfl⟩
 exact⟨_,rfl,rfl,rfl⟩
def lF (l:List Rg):List ByteArray→Int→Bool
 | [],_=>true
 | s :: r,last=>if aD l s.data.toList≤last then false else lF l r (aD l s.data.toList)
def ac (gs:List Gd) (i:Nat):List Rg:=match gs[i]? with | some g=>g.rungs | none=>[]
def dl (gs:List Gd) (guard:Nat) (n:Nd):Bool :=
 decide (0≤n.guard)&&decide (n.guard≤(guard:Int)-1)&&!decide (n.rungs.length=0)&&lF (ac gs n.guard.toNat) n.rungs (-1)
theorem j9 {l:List Rg}{r:List ByteArray}{i:Nat}{z:Int} (h:i<r.length):lF l (r.drop i) z=if aD l r[i].data.toList≤z then false else lF l (r.drop (i+1)) (aD l r[i].data.toList):=by
 rw[uR h];rfl
theorem fk:∀ (l:List Rg) (s:List UInt8) (k:Nat),-1≤bS l s k∧bS l s k<(k+l.length:Nat)
 | [],_,k=>by simp[bS];omega
 | r :: l,s,k=>by
  unfold bS
  split
  ·simp;omega
  ·have:=fk l s (k+1)
   simp only[uG];omega
theorem cw (l:List Rg) (s:List UInt8):-1≤aD l s∧aD l s<l.length:=by
 have:=fk l s 0
 unfold aD;omega
theorem iA (gs:List Gd) (p:Option Addr) (c:Nat) (guard:Nat) (ng:Int) (q:Option Addr) (cq:Nat) (names:List ByteArray) (w:World)
  (hG:aQ w p gs) (hN:bQ w q names) (hg:guard≤gs.length) (hfew:gs.length≤1000) (hrs:∀ j,j<guard→(ac gs j).length<1000000) (hnl:names.length≤1000000000000000) :
  Calls Tryz.prog 55 #[.agg #[.slice p gs.length c],.int .i64 guard,.agg #[.int .i64 ng,.slice q names.length cq]] w fun e w'=>∃ b:Bool,e=.returned (.bool b)∧Hid (dl gs guard ⟨ng,names⟩=b)∧Below w.heap.size w w':=by
 have hb1:Below w.heap.size w (w.alloc (.cells #[.slice p gs.length c] 28)):=(Below.refl _ _).alloc (uo _) _
 have hb2:Below (w.alloc (.cells #[.slice p gs.length c] 28)).heap.size (w.alloc (.cells #[.slice p gs.length c] 28)) ((w.alloc (.cells #[.slice p gs.length c] 28)).alloc (.cells #[.int .i64 ng,.slice q names.length cq] 75)):=(Below.refl _ _).alloc (uo _) _
 have hs1:(w.alloc (.cells #[.slice p gs.length c] 28)).heap.size=w.heap.size+1:=by simp
 have s0:=(hb2.cell (p:=⟨w.heap.size,0,none⟩) (by simp)).trans (af w #[.slice p gs.length c] 28 0 _ rfl)
 have n0:=af (w.alloc (.cells #[.slice p gs.length c] 28)) #[.int .i64 ng,.slice q names.length cq] 75 0 _ rfl
 have n1:=af (w.alloc (.cells #[.slice p gs.length c] 28)) #[.int .i64 ng,.slice q names.length cq] 75 1 _ rfl
 rw[hs1] at n0 n1
 have hlt:w.heap.size+1<((w.alloc (.cells #[.slice p gs.length c] 28)).alloc (.cells #[.int .i64 ng,.slice q names.length cq] 75)).heap.size:=by simp
 have HB:=hb1.trans (hb2.mono hb1.size)
 have HG:=hG.below HB
 have HN:=hN.below HB
 have HRS:=uk hrs
 clear hb1 hb2 hs1 hG hN hrs
 go_enter Tryz.func55,Tryz.ntmps55
 go_wp2_with fail
 generalize (w.alloc (.cells #[.slice p gs.length c] 28)).alloc (.cells #[.int .i64 ng,.slice q names.length cq] 75)=w0 at *
 refine (bK _ _ _ _).mono ?_
 rintro e w1 ⟨b,rfl,hb,rfl⟩
 cases b
 ·go_wp2
  go_ret
  exact⟨false,rfl,by unfold Hid dl;rw[hb.out];rfl,HB⟩
 ·have hb1:=hb.out
  simp only[uz,decide_eq_true_eq] at hb1
  obtain⟨j,rfl⟩:∃ j:Nat,ng=(j:Int):=⟨ng.toNat,by omega⟩
  have hjg:j<guard:=by omega
  have hj:j<gs.length:=by omega
  clear hb1
  by_cases h0:names.length=0
  ·have hd:(((names.length:Nat):Int) == 0)=true:=by simp[h0]
   have H0:=uk h0
   clear h0
   go_wp2
   go_ret
   exact⟨false,rfl,by unfold Hid dl;simp[H0.out],HB⟩
  ·have hd:(((names.length:Nat):Int) == 0)=false:=by simp;intro e;rw[e] at h0;simp at h0
   have H0:=uk h0
   clear h0
   go_wp2_with fail
   go_loopw [7,26] (fun s7 s26 wr=>∃ (z:Int) (i:Nat),s7=.int .i64 z∧s26=.int .i64 i∧i≤names.length∧-1≤z∧z<1000000∧aQ wr p gs∧bQ wr q names∧Below w.heap.size w wr∧Below w0.heap.size w0 wr∧Hid (lF (ac gs j) names (-1)=lF (ac gs j) (names.drop i) z)) (fun _ s26 _=>names.length-(intOf s26).toNat)
   case atStart=>exact⟨-1,0,rfl,rfl,by omega,by omega,by omega,HG,HN,HB,Below.refl _ _,rfl⟩
   case round =>
    clear HG HN HB
    obtain⟨z,i,rfl,rfl,hi,hz1,hz2,HG,HN,HB,HB0,hx⟩:=hrel
    by_cases hil:i<names.length
    ·obtain⟨bn,on,rfl,hbn,hcn⟩:=HN.at_ (by omega)
     obtain⟨bg,og,rfl,hbg,hcg⟩:=HG.at_ (by omega)
     have e0:=hcn i hil
     obtain⟨q1,c1,e1,e2,hR⟩:=hcg j hj
     obtain⟨nm,hnm⟩:∃ nm,nm=names[i]:=⟨_,rfl⟩
     obtain⟨g,hge⟩:∃ g,g=gs[j]:=⟨_,rfl⟩
     rw[←hnm] at e0
     rw[←hge] at e1 e2 hR
     have hra:ac gs j=g.rungs:=by unfold ac;rw[uu hj,hge]
     have hgl:g.rungs.length<1000000:=by rw[←hra];exact HRS.out j hjg
     have HRA:=uk hra
     have HNM:=uk hnm
     have f0:=(HB0.cell (p:=⟨w.heap.size,0,none⟩) (by show w.heap.size<_;omega)).trans s0
     have f1:=(HB0.cell (p:=⟨w.heap.size+1,0,none⟩) (by show w.heap.size+1<_;omega)).trans n0
     have f2:=(HB0.cell (p:=⟨w.heap.size+1,1,none⟩) (by show w.heap.size+1<_;omega)).trans n1
     clear hcn hcg hnm hge hra
     go_wp2_with fail
     refine (fY g.name q1 c1 g.rungs nm wr hR hgl).mono ?_
     rintro e w2 ⟨k,rfl,hk,hb2⟩
     have hkr:=cw g.rungs nm.data.toList
     rw[hk.out] at hkr
     have hHG:=HG.below hb2
     have hHN:=HN.below hb2
     have hHB:=HB.trans (hb2.mono HB.size)
     have hHB0:=HB0.trans (hb2.mono HB0.size)
     clear HG HN HB HB0 hb2 e0 e1 e2 f0 f1 f2 hR
     by_cases hle:k≤z
     ·have hd2:decide (k≤z)=true:=by simp;omega
      have HL:=uk hle
      clear hle
      go_wp2
      go_ret
      exact⟨false,rfl,by unfold Hid dl;rw[hb.out];simp only[uP];rw[hx.out,j9 hil,←HNM.out,HRA.out,hk.out,if_pos HL.out,wJ],hHB⟩
     ·have hd2:decide (k≤z)=false:=by simp;omega
      have HL:=uk hle
      clear hle
      go_wp2
      go_roundw
      case rel=>exact⟨k,i+1,rfl,by go_num,by omega,by omega,by omega,hHG,hHN,hHB,hHB0,by unfold Hid;rw[hx.out,j9 hil,←HNM.out,HRA.out,hk.out,if_neg (Int.not_le.2 HL.out)]⟩
      case measure=>simp[intOf];omega
    ·have hie:i=names.length:=by omega
     subst hie
     clear hil hi
     go_wp2
     go_ret
     exact⟨true,rfl,by unfold Hid dl;rw[hb.out];simp only[uP];rw[hx.out,wR,decide_eq_false H0.out];rfl,HB⟩
def fT (l:List Rg):Nat→Nat→Bool
 | 0,_=>false
 | m+1,k=>match l[k]? with
  | none=>false
  | some r=>if r.next.data.toList=[] then true else fT l m (aD l r.next.data.toList).toNat
theorem gl {l:List Rg}{m k:Nat} (h:k<l.length):fT l (m+1) k=if l[k].next.data.toList=[] then true else fT l m (aD l l[k].next.data.toList).toNat:=by
 rw[fT,uu h]
theorem tT (g:ByteArray) (p:Option Addr) (c:Nat) (l:List Rg) (k:Nat) (w:World) (hl:bP w p l) (hn:l.length<1000000) (hk:k<l.length) (hok:∀ j (h:j<l.length),l[j].next.data.toList=[]∨0≤aD l l[j].next.data.toList) :
  Calls Tryz.prog 39 #[.agg #[.string g,.slice p l.length c],.int .i64 k] w fun e w'=>∃ b:Bool,e=.returned (.bool b)∧Hid (fT l l.length k=b)∧Below w.heap.size w w':=by
 have hb1:Below w.heap.size w (w.alloc (.cells #[.string g,.slice p l.length c] 61)):=(Below.refl _ _).alloc (uo _) _
 have s0:=af w #[.string g,.slice p l.length c] 61 0 _ rfl
 have s1:=af w #[.string g,.slice p l.length c] 61 1 _ rfl
 have hlt:w.heap.size<(w.alloc (.cells #[.string g,.slice p l.length c] 61)).heap.size:=by simp
 have HL:=hl.below hb1
 have OK:=uk hok
 clear hl hok
 go_enter Tryz.func39,Tryz.ntmps39
 go_wp2_with fail
 generalize w.alloc (.cells #[.string g,.slice p l.length c] 61)=w0 at *
 go_loopw [1,8] (fun s1 s8 wr=>∃ (j i:Nat),s1=.int .i64 j∧s8=.int .i64 i∧i≤l.length∧j<l.length∧bP wr p l∧Below w.heap.size w wr∧Below w0.heap.size w0 wr∧Hid (fT l l.length k=fT l (l.length-i) j)) (fun _ s8 _=>l.length-(intOf s8).toNat)
 case atStart=>exact⟨k,0,rfl,rfl,by omega,hk,HL,hb1,Below.refl _ _,rfl⟩
 case round =>
  clear HL hb1 hk
  obtain⟨j,i,rfl,rfl,hi,hj,HL,HB,HB0,hx⟩:=hrel
  by_cases hil:i<l.length
  ·obtain⟨b,o,rfl,hbw,hcs⟩:=HL.at_ (by omega)
   obtain⟨q1,c1,q2,c2,hr⟩:=hcs j hj
   obtain⟨r,hre⟩:∃ r,r=l[j]:=⟨_,rfl⟩
   rw[←hre] at hr
   have HR:=uk hre
   have e1:=hr.d1
   have f0:=(HB0.cell (p:=⟨w.heap.size,0,none⟩) hlt).trans s0
   have f1:=(HB0.cell (p:=⟨w.heap.size,1,none⟩) hlt).trans s1
   have hjI:(j:Int)<((l.length:Nat):Int):=by omega
   clear hre hcs hr
   by_cases hne:r.next.toList=[]
   ·have z1:(r.next.toList == [])=true:=by simp[hne]
    have HE:=uk hne
    clear hne
    go_wp2
    go_ret
    exact⟨true,rfl,by unfold Hid;rw[hx.out,show l.length-i=(l.length-i-1)+1 from by omega,gl hj,if_pos (by rw[←HR.out,←aj];exact HE.out)],HB⟩
   ·have z1:(r.next.toList == [])=false:=by simpa using hne
    have HE:=uk hne
    have hge:0≤aD l r.next.data.toList:=by
     rcases OK.out j hj with h | h
     ·exact absurd (by rw[aj,HR.out];exact h) hne
     ·rw[HR.out];exact h
    clear hne
    have hbd:Below wr.heap.size wr wr.drew:=below_drewN (Below.refl _ _) 1
    have HLd:=uk (HL.below hbd)
    have HBd:=uk (HB.trans (hbd.mono HB.size))
    have HB0d:=uk (HB0.trans (hbd.mono HB0.size))
    clear hbd
    go_wp2_with fail
    go_region_with ((go_at_call 42;refine (fY g _ c l r.next _ (by exact HLd.out) hn).mono ?_;rintro e w2 ⟨z,rfl,hz,hb2⟩))
    all_goals
     have hzr:=cw l r.next.data.toList
     rw[hz.out] at hzr hge
     obtain⟨t,rfl⟩:∃ t:Nat,z=(t:Int):=⟨z.toNat,by omega⟩
     have hHL:=HLd.out.below hb2
     have hHB:=HBd.out.trans (hb2.mono HBd.out.size)
     have hHB0:=HB0d.out.trans (hb2.mono HB0d.out.size)
     clear HL HB HB0 hb2 e1 f0 f1
     go_wp2
     go_roundw
     case rel=>exact⟨t,i+1,by first | rfl | go_num,by go_num,by omega,by omega,hHL,hHB,hHB0,by unfold Hid;rw[hx.out,show l.length-i=(l.length-(i+1))+1 from by omega,gl hj,if_neg (by rw[←HR.out,←aj];exact HE.out),←HR.out,hz.out];rfl⟩
     case measure=>simp[intOf];omega
  ·have hie:i=l.length:=by omega
   subst hie
   clear hil hi
   go_wp2
   go_ret
   exact⟨false,rfl,by unfold Hid;rw[hx.out,Nat.sub_self];rfl,HB⟩
end Go.Proofs.YtlkniohhalnjjaaGreatDoor
