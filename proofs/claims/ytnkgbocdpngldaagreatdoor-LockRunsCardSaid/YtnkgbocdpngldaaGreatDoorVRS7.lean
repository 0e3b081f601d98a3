/-
  Texts of this claim: RSys, RS7, RA1.
-/
import Derived.Test.YtnkgbocdpngldaaGreatDoorVSys
import Derived.Test.YtnkgbocdpngldaaGreatDoorVRS6
import Derived.Test.YtnkgbocdpngldaaGreatDoorVA
set_option linter.unusedVariables false
set_option linter.unusedSimpArgs false
set_option maxRecDepth 100000
set_option maxHeartbeats 8000000

namespace Go.Proofs.YtnkgbocdpngldaaGreatDoor
open Go.RowKit Dc Dg
def dr (l:List Rg):Nat→Nat→Bool
 | 0,_=>false
 | m+1,k=>match l[k]? with
  | none=>false
  | some r=>if r.next.data.toList=[] then true else if aF l r.next.data.toList<0 then false else dr l m (aF l r.next.data.toList).toNat
theorem gK {l:List Rg} {m k:Nat} (h:k<l.length):dr l (m+1) k=if l[k].next.data.toList=[] then true else if aF l l[k].next.data.toList<0 then false else dr l m (aF l l[k].next.data.toList).toNat:=by
 rw [dr,Cb h]
def fE (l:List Rg) (k:Nat) (r:Rg):Bool :=
 !(decide (k=0)&&(!decide (aF l r.back.data.toList=0)||decide (0<r.needs.length))||decide (0<k)&&!(decide (0≤aF l r.back.data.toList)&&decide (aF l r.back.data.toList≤(k:Int)-1)))
def dD (gs:List Gd) (i k:Nat) (l:List Rg) (r:Rg):Bool:=cO l k r&&dr l l.length k&&fE l k r&&d7 gs i r.needs&&eP r.loops
def eZ (gs:List Gd) (i k:Nat):Bool:=match (ag gs i)[k]? with | some r=>dD gs i k (ag gs i) r | none=>false
def vG (gs:List Gd) (i:Nat):Bool:=(List.range (ag gs i).length).all (eZ gs i)
def dX (gs:List Gd) (i:Nat):Bool :=
 bA (dW gs i).name.data.toList&&(decide (1≤(ag gs i).length)&&decide ((ag gs i).length≤8))&&!iP gs i&&vG gs i
def Ao (gs:List Gd):Bool:=(decide (1≤gs.length)&&decide (gs.length≤3))&&(List.range gs.length).all (dX gs)
theorem tN {l:List Rg}:∀ (m k:Nat),k<l.length→dr l m k=true→g_ l m k=true
 | 0,_,_,h=>by cases h
 | m+1,k,hk,h=>by
  rw [gK hk] at h
  rw [ft hk]
  split
  ·rfl
  ·rename_i h1
   rw [if_neg h1] at h
   split at h
   ·cases h
   ·rename_i h2
    have:=bC l l[k].next.data.toList
    exact tN m _ (by omega) h
theorem tO {l:List Rg} (hok:∀ j (h:j<l.length),l[j].next.data.toList=[]∨0≤aF l l[j].next.data.toList):∀ (m k:Nat),k<l.length→g_ l m k=true→dr l m k=true
 | 0,_,_,h=>by cases h
 | m+1,k,hk,h=>by
  rw [ft hk] at h
  rw [gK hk]
  split
  ·rfl
  ·rename_i h1
   rw [if_neg h1] at h
   have h2:=(hok k hk).resolve_left h1
   have:=bC l l[k].next.data.toList
   rw [if_neg (by omega)]
   exact tO hok m _ (by omega) h
theorem nF {l:List Rg} {k:Nat} {r:Rg}:bQ l k r=true↔(r.next.data.toList=[]∨0≤aF l r.next.data.toList)∧fE l k r=true:=by
 have hr:=bC l r.back.data.toList
 unfold bQ fE
 generalize aF l r.back.data.toList=b at *
 by_cases h1:r.next.data.toList=[]<;>by_cases h2:aF l r.next.data.toList<0<;>by_cases hk:k=0<;>by_cases hn:r.needs.length=0<;>simp [h1,h2,hk,hn]<;>omega
theorem iT {n:Nat} {f:Nat→Bool}:(List.range n).all f=true↔∀ k,k<n→f k=true:=by
 rw [Cr]
 exact ⟨fun h k hk=>h k (Cz.2 hk),fun h k hk=>h k (Cz.1 hk)⟩
theorem Af {gs:List Gd} {i:Nat}:vG gs i=true↔q_ gs i=true∧fq gs i=true:=by
 have e1:∀ k,k<(ag gs i).length→(eZ gs i k=dD gs i k (ag gs i) (aM gs i k)∧eE gs i k=bL gs i k (ag gs i) (aM gs i k)):=by
  intro k hk
  unfold eZ eE aM
  rw [Cb hk]
  exact ⟨rfl,rfl⟩
 have e2:∀ k (hk:k<(ag gs i).length),aM gs i k=(ag gs i)[k]:=by
  intro k hk;unfold aM;rw [Cb hk]
 unfold vG q_ fq
 rw [iT,iT,iT]
 constructor
 ·intro h
  have hends:∀ k,k<(ag gs i).length→dr (ag gs i) (ag gs i).length k=true:=fun k hk=>by
   have:=h k hk
   rw [(e1 k hk).1] at this
   unfold dD at this
   simp only [Ce] at this
   exact this.1.1.1.2
  refine ⟨fun k hk=>?_,fun k hk=>tN _ k hk (hends k hk)⟩
  have:=h k hk
  rw [(e1 k hk).1] at this
  rw [(e1 k hk).2]
  unfold dD at this
  unfold bL
  simp only [Ce] at this ⊢
  refine ⟨⟨⟨this.1.1.1.1,nF.2 ⟨?_,this.1.1.2⟩⟩,this.1.2⟩,this.2⟩
  have he:=hends k hk
  obtain ⟨m,hm⟩:∃ m,(ag gs i).length=m+1:=⟨(ag gs i).length-1,by omega⟩
  rw [hm,gK hk,←e2 k hk] at he
  by_cases h1:(aM gs i k).next.data.toList=[]
  ·exact Or.inl h1
  ·rw [if_neg h1] at he
   split at he
   ·cases he
   ·exact Or.inr (by omega)
 ·rintro ⟨h1,h2⟩ k hk
  have h3:=h1 k hk
  have hok:=rc (gs:=gs) (i:=i) (iT.2 h1)
  rw [(e1 k hk).2] at h3
  rw [(e1 k hk).1]
  unfold bL at h3
  unfold dD
  simp only [Ce] at h3 ⊢
  exact ⟨⟨⟨⟨h3.1.1.1,tO hok _ k hk (h2 k hk)⟩,(nF.1 h3.1.1.2).2⟩,h3.1.2⟩,h3.2⟩
theorem uZ (gs:List Gd) (i:Nat):dX gs i=cc gs i:=by
 rw [C5]
 unfold dX cc
 simp only [Ce]
 rw [Af]
 constructor
 ·rintro ⟨⟨⟨a,b⟩,c⟩,d,e⟩;exact ⟨⟨⟨⟨a,c⟩,b⟩,d⟩,e⟩
 ·rintro ⟨⟨⟨⟨a,c⟩,b⟩,d⟩,e⟩;exact ⟨⟨⟨a,b⟩,c⟩,d,e⟩
theorem uo (gs:List Gd):Ao gs=bf gs:=by
 unfold Ao bf
 congr 2
 funext i
 exact uZ gs i
end Go.Proofs.YtnkgbocdpngldaaGreatDoor

namespace Go.Proofs.YtnkgbocdpngldaaGreatDoor
open Go.RowKit Dg Dc
theorem sN (s:ByteArray) (w:World) :
  Calls Tryz.prog 104 #[.string s] w fun e w'=>e=.returned (.bool (jJ s.data.toList))∧Below w.heap.size w w':=by
 go_enter Tryz.func104,Tryz.ntmps104
 go_wp2_with fail
 refine (tV s w).mono ?_
 rintro e w2 ⟨v2,rfl,hz2,hb2⟩
 obtain ⟨p0,k0,d0,p1,k1,d1,p2,k2,d2,p3,k3,d3,rfl,_,_⟩:=hz2.parts
 generalize (aJ s.data.toList).x.minus=m0 at *
 generalize (aJ s.data.toList).y.minus=m1 at *
 have HR:Hid (jJ s.data.toList=(rOK s.data.toList&&decide ((aJ s.data.toList).y.n=0))):=rfl
 generalize rOK s.data.toList=ok at HR ⊢
 have hl2:=bc w2 (.cells #[.bool m0,.slice p0 k0 d0,.bool false,.slice p1 k1 d1,.bool m1,.slice p2 k2 d2,.bool false,.slice p3 k3 d3] 175)
 have hb3:=hb2.trans (hl2.below.mono hb2.size)
 have HC:=B8 (hz2.below hl2.below)
 have r0:=hl2.s0
 clear hl2 hb2 hz2
 go_upto_region 2 with fail
 generalize w2.alloc (.cells #[.bool m0,.slice p0 k0 d0,.bool false,.slice p1 k1 d1,.bool m1,.slice p2 k2 d2,.bool false,.slice p3 k3 d3] 175)=w3 at *
 cases ok
 ·go_wp2_with fail
  go_ret
  exact ⟨by rw [HR.out];rfl,hb3⟩
 ·have q0:=aa r0 0
  have q1:=aa r0 1
  have q2:=aa r0 2
  have q3:=aa r0 3
  have q4:=aa r0 4
  have q5:=aa r0 5
  have q6:=aa r0 6
  have q7:=aa r0 7
  go_wp2_with fail
  refine (uK _ (aJ s.data.toList) w3 HC.out).mono ?_
  rintro e w4 ⟨rfl,hb4⟩
  have HEND:=hb3.trans (hb4.mono hb3.size)
  go_wp2_with fail
  go_ret
  exact ⟨by rw [HR.out];rfl,HEND⟩
theorem IsC.two {w:World} {m m':Bool} {p0 p1 p2 p3:Option Addr} {n0 c0 n1 c1 n2 c2 n3 c3:Nat} {z:Vl} (h:IsC w (.agg #[.bool m,.slice p0 n0 c0,.bool false,.slice p1 n1 c1,.bool m',.slice p2 n2 c2,.bool false,.slice p3 n3 c3]) z) :
  IsQ w (.agg #[.bool m,.slice p0 n0 c0,.bool false,.slice p1 n1 c1]) z.x∧IsQ w (.agg #[.bool m',.slice p2 n2 c2,.bool false,.slice p3 n3 c3]) z.y:=by
 obtain ⟨a,b,c,d,e,h1,h2,h3,h4⟩:=h
 simp only [Value.agg.injEq,Array.mk.injEq,List.cons.injEq,and_true,true_and] at e
 obtain ⟨rfl',rfl,rfl,rfl'',rfl,rfl⟩:=e
 exact ⟨⟨_,_,by rw [rfl'],h1,h2⟩,⟨_,_,by rw [rfl''],h3,h4⟩⟩
theorem vW (s:ByteArray) (w:World) :
  Calls Tryz.prog 105 #[.string s] w fun e w'=>e=.returned (.bool (rOK s.data.toList&&dN (aJ s.data.toList).x&&dN (aJ s.data.toList).y))∧Below w.heap.size w w':=by
 have HCX:=B8 (f9 s.data.toList).1.sign
 have HCY:=B8 (f9 s.data.toList).2.sign
 have HFX:=B8 (gd s.data.toList).1
 have HFY:=B8 (gd s.data.toList).2
 go_enter Tryz.func105,Tryz.ntmps105
 go_wp2_with fail
 refine (tV s w).mono ?_
 rintro e w2 ⟨v2,rfl,hz2,hb2⟩
 obtain ⟨p0,k0,d0,p1,k1,d1,p2,k2,d2,p3,k3,d3,rfl,_,_⟩:=hz2.parts
 generalize (aJ s.data.toList).x.minus=m0 at hz2 ⊢
 generalize (aJ s.data.toList).y.minus=m1 at hz2 ⊢
 obtain ⟨ok,hok⟩:∃ b,b=rOK s.data.toList:=⟨_,rfl⟩
 obtain ⟨b0,hb0⟩:∃ b,b=dN (aJ s.data.toList).x:=⟨_,rfl⟩
 obtain ⟨b1,hb1⟩:∃ b,b=dN (aJ s.data.toList).y:=⟨_,rfl⟩
 rw [←hok]
 have HR:Hid ((rOK s.data.toList&&dN (aJ s.data.toList).x&&dN (aJ s.data.toList).y)=((ok&&b0)&&b1)):=by unfold Hid;rw [hok,hb0,hb1]
 have B0:=B8 hb0
 have B1:=B8 hb1
 clear hok hb0 hb1
 have hl2:=bc w2 (.cells #[.bool m0,.slice p0 k0 d0,.bool false,.slice p1 k1 d1,.bool m1,.slice p2 k2 d2,.bool false,.slice p3 k3 d3] 175)
 have hb3:=hb2.trans (hl2.below.mono hb2.size)
 have HC:=B8 (hz2.below hl2.below)
 have r0:=hl2.s0
 clear hl2 hb2 hz2
 go_upto_region 2 with fail
 generalize w2.alloc (.cells #[.bool m0,.slice p0 k0 d0,.bool false,.slice p1 k1 d1,.bool m1,.slice p2 k2 d2,.bool false,.slice p3 k3 d3] 175)=w3 at *
 cases ok
 ·go_wp2_with fail
  go_ret
  exact ⟨by rw [HR.out];rfl,hb3⟩
 ·have q0:=aa r0 0
  have q1:=aa r0 1
  have q2:=aa r0 2
  have q3:=aa r0 3
  go_wp2_with fail
  refine (nj _ (aJ s.data.toList).x w3 HC.out.two.1 HCX.out HFX.out.1 HFX.out.2).mono ?_
  rintro e w4 ⟨rfl,hb4⟩
  have HB4:=hb3.trans (hb4.mono hb3.size)
  have r1:=(hb4.block _ (ac r0)).trans r0
  have HC4:=B8 (HC.out.below hb4)
  rw [←B0.out]
  clear q0 q1 q2 q3 HC r0 hb4
  cases b0
  ·go_wp2_with fail
   go_ret
   exact ⟨by rw [HR.out];rfl,HB4⟩
  ·have q4:=aa r1 4
   have q5:=aa r1 5
   have q6:=aa r1 6
   have q7:=aa r1 7
   go_wp2_with fail
   refine (nj _ (aJ s.data.toList).y w4 HC4.out.two.2 HCY.out HFY.out.1 HFY.out.2).mono ?_
   rintro e w5 ⟨rfl,hb5⟩
   have HEND:=HB4.trans (hb5.mono HB4.size)
   rw [←B1.out]
   go_wp2_with fail
   go_ret
   exact ⟨by rw [HR.out];rfl,HEND⟩
theorem xa (s:ByteArray) (w:World) :
  Calls Tryz.prog 95 #[.string s] w fun e w'=>e=.returned (.bool (du s.data.toList))∧Below w.heap.size w w':=by
 rw [←zP]
 have HR:Hid (wZ s.data.toList=(jJ s.data.toList&&(rOK s.data.toList&&dN (aJ s.data.toList).x&&dN (aJ s.data.toList).y))):=rfl
 go_enter Tryz.func95,Tryz.ntmps95
 go_wp2_with fail
 refine (sN s w).mono ?_
 rintro e w2 ⟨rfl,hb2⟩
 generalize jJ s.data.toList=b0 at HR ⊢
 cases b0
 ·go_wp2_with fail
  go_ret
  exact ⟨by rw [HR.out];rfl,hb2⟩
 ·go_wp2_with fail
  refine (vW s w2).mono ?_
  rintro e w3 ⟨rfl,hb3⟩
  have HEND:=hb2.trans (hb3.mono hb2.size)
  go_wp2_with fail
  go_ret
  exact ⟨by rw [HR.out];rfl,HEND⟩
end Go.Proofs.YtnkgbocdpngldaaGreatDoor

namespace Go.Proofs.YtnkgbocdpngldaaGreatDoor
open Go.RowKit Dc Dg
theorem iC (n low high:Int) (w:World) :
  Calls Tryz.prog 33 #[.int .i64 n,.int .i64 low,.int .i64 high] w fun e w'=>e=.returned (.bool (decide (low≤n)&&decide (n≤high)))∧w'=w:=by
 by_cases h:low≤n
 ·have hd:decide (low≤n)=true:=by simp;omega
  go_enter Tryz.func33,Tryz.ntmps33
  go_wp2
  go_ret
  exact ⟨by simp [hd],rfl⟩
 ·have hd:decide (low≤n)=false:=by simp;omega
  go_enter Tryz.func33,Tryz.ntmps33
  go_wp2
  go_ret
  exact ⟨by simp [hd],rfl⟩
def dj:List ByteArray→List UInt8→Nat→Int
 | [],_,_=>-1
 | r :: l,s,k=>if r.data.toList=s then (k:Int) else dj l s (k+1)
theorem n9 {l:List ByteArray} {s:List UInt8} {i:Nat} (h:i<l.length):dj (l.drop i) s i=if l[i].data.toList=s then (i:Int) else dj (l.drop (i+1)) s (i+1):=by
 rw [CA h];rfl
theorem kC:∀ (l:List ByteArray) (s:List UInt8) (k:Nat),decide (dj l s k<0)=!(l.any fun r=>decide (r.data.toList=s))
 | [],_,_=>rfl
 | r :: l,s,k=>by
  rw [dj,List.any_cons]
  split
  ·rename_i h;simp [h]
  ·rename_i h;rw [kC l s (k+1)];simp [h]
theorem fZ {s t:ByteArray}:(s.toList == t.toList)=decide (s.data.toList=t.data.toList):=by
 rw [ak,ak,C5];simp
theorem pA (q:Option Addr) (c:Nat) (l:List ByteArray) (s:ByteArray) (w:World) (hl:cR w q l) (hn:l.length≤1000000000000000) :
  Calls Tryz.prog 30 #[.slice q l.length c,.string s] w fun e w'=>e=.returned (.int .i64 (dj l s.data.toList 0))∧w'=w:=by
 go_enter Tryz.func30,Tryz.ntmps30
 go_wp2
 go_loop [5] (fun s5=>∃ i:Nat,s5=.int .i64 i∧i≤l.length∧Hid (dj l s.data.toList 0=dj (l.drop i) s.data.toList i)) (fun s5=>l.length-(intOf s5).toNat)
 case atStart=>exact ⟨0,rfl,by omega,rfl⟩
 case round =>
  obtain ⟨i,rfl,hi,hx⟩:=hrel
  by_cases hil:i<l.length
  ·obtain ⟨b,o,rfl,hbw,hcs⟩:=hl.at_ (by omega)
   have hc:=hcs i hil
   obtain ⟨r,hr⟩:∃ r,r=l[i]:=⟨_,rfl⟩
   rw [←hr] at hc
   have hstep:=n9 (s:=s.data.toList) hil
   rw [←hr] at hstep
   clear hcs hl hr
   by_cases heq:r.data.toList=s.data.toList
   ·have z1:(r.toList == s.toList)=true:=by rw [fZ];simp [heq]
    rw [if_pos heq] at hstep
    have HS:=B8 (hx.out.trans hstep)
    clear heq hstep
    go_wp2
    go_ret
    exact ⟨by rw [HS.out];rfl,rfl⟩
   ·have z1:(r.toList == s.toList)=false:=by rw [fZ];simp [heq]
    rw [if_neg heq] at hstep
    have HS:=B8 (hx.out.trans hstep)
    clear heq hstep
    go_wp2
    go_round
    case rel=>exact ⟨i+1,by go_num,by omega,HS⟩
    case measure=>simp [intOf];omega
  ·obtain rfl:i=l.length:=by omega
   have HS:Hid (dj l s.data.toList 0=-1):=by unfold Hid;rw [hx.out,DD];rfl
   clear hil hl
   go_wp2
   go_ret
   exact ⟨by rw [HS.out];rfl,rfl⟩
theorem fw (g:ByteArray) (p:Option Addr) (c:Nat) (l:List Rg) (s:ByteArray) (w:World) (hl:cD w p l) (hn:l.length<1000000) :
  Calls Tryz.prog 87 #[.agg #[.string g,.slice p l.length c],.string s] w fun e w'=>e=.returned (.int .i64 (aF l s.data.toList))∧Below w.heap.size w w':=by
 have hl1:Below w.heap.size w (w.alloc (.cells #[.string g,.slice p l.length c] 62)):=(Below.refl _ _).alloc (Ca _) _
 have hr0:=heap_alloc_new w (.cells #[.string g,.slice p l.length c] 62)
 have x1:(w.alloc (.cells #[.string g,.slice p l.length c] 62)).cell? ⟨w.heap.size,1,none⟩=some (.slice p l.length c):=aa hr0 1
 have HL:=hl.below hl1
 clear hl hr0
 go_enter Tryz.func87,Tryz.ntmps87
 go_upto_region 1 with fail
 generalize w.alloc (.cells #[.string g,.slice p l.length c] 62)=w1 at *
 go_wp2
 go_loop [5] (fun s5=>∃ i:Nat,s5=.int .i64 i∧i≤l.length∧Hid (aF l s.data.toList=cC (l.drop i) s.data.toList i)) (fun s5=>l.length-(intOf s5).toNat)
 case atStart=>exact ⟨0,rfl,by omega,rfl⟩
 case round =>
  obtain ⟨i,rfl,hi,hx⟩:=hrel
  by_cases hil:i<l.length
  ·obtain ⟨b,o,rfl,hbw,hcs⟩:=HL.at_ (by omega)
   obtain ⟨q1,c1,q2,c2,hr⟩:=hcs i hil
   have hc:=hr.d0
   obtain ⟨r,hre⟩:∃ r,r=l[i]:=⟨_,rfl⟩
   rw [←hre] at hc
   have hstep:=fS (s:=s.data.toList) hil
   rw [←hre] at hstep
   clear hcs HL hre hr
   by_cases heq:r.name.data.toList=s.data.toList
   ·have z1:(r.name.toList == s.toList)=true:=by rw [fZ];simp [heq]
    rw [if_pos heq] at hstep
    have HS:=B8 (hx.out.trans hstep)
    clear heq hstep
    go_wp2
    go_ret
    exact ⟨by rw [HS.out];rfl,hl1⟩
   ·have z1:(r.name.toList == s.toList)=false:=by rw [fZ];simp [heq]
    rw [if_neg heq] at hstep
    have HS:=B8 (hx.out.trans hstep)
    clear heq hstep
    go_wp2
    go_round
    case rel=>exact ⟨i+1,by go_num,by omega,HS⟩
    case measure=>simp [intOf];omega
  ·obtain rfl:i=l.length:=by omega
   have HS:Hid (aF l s.data.toList=-1):=by unfold Hid;rw [hx.out,DD];rfl
   clear hil HL
   go_wp2
   go_ret
   exact ⟨by rw [HS.out];rfl,hl1⟩
end Go.Proofs.YtnkgbocdpngldaaGreatDoor
