/-
  Texts of this claim: Nev2, Arg1, Row1.
-/
import Derived.Deep.Slices
import Derived.OpenShut
import Derived.Test.YtnkgbocdpngldaaGreatDoorRows
import Derived.ProofKit
import Derived.LaidMore
import Derived.HandedShaped
import Derived.Shelf.Vars
import Derived.Lay
import Derived.Stop.Joined
import Derived.Test.YtnkgbocdpngldaaGreatDoorVRun
import Derived.Test.YtnkgbocdpngldaaGreatDoorVA
set_option linter.unusedVariables false
set_option linter.unusedSimpArgs false
set_option maxRecDepth 100000
set_option maxHeartbeats 8000000

namespace Go.Proofs.YtnkgbocdpngldaaGreatDoor
open Go.RowKit Dc Dg
theorem EvR.slice {n:Nat} {w:World} {v:Value} {l:List Ev} (h:EvR n w v l):∃ p c,v=.slice p l.length c:=by
 obtain ⟨p,c,e,_⟩:=h.q.at_
 exact ⟨p,c,e⟩
theorem EvR.small {n:Nat} {w:World} {v:Value} {l:List Ev} (h:EvR n w v l):l.length≤maxLen:=by
 rcases h.2 with ⟨_,hn⟩ | ⟨g,cap,cur,_,_,_,h3,h4,_⟩
 ·rw [hn];exact Cw _
 ·exact Ci h3 h4
end Go.Proofs.YtnkgbocdpngldaaGreatDoor

namespace Go.Proofs.YtnkgbocdpngldaaGreatDoor
open Go.RowKit Dc Dg
open Go.ChangeShapes Go.WideShapes
set_option maxRecDepth 100000
theorem gM {α:Type}:∀ (n:Nat) (p:Nat→α→Prop),(∀ i,i<n→∃ x,p i x)→∃ l:List α,l.length=n∧∀ i (h:i<l.length),p i l[i]
 | 0,_,_=>⟨[],rfl,fun i h=>by simp at h⟩
 | n+1,p,h=>by
  obtain ⟨l,hl,hp⟩:=gM n p (fun i hi=>h i (by omega))
  obtain ⟨x,hx⟩:=h n (by omega)
  refine ⟨l++[x],by simp [hl],fun i hi=>?_⟩
  by_cases hin:i<l.length
  ·rw [List.getElem_append_left hin];exact hp i hin
  ·have hie:i=n:=by simp at hi;omega
   subst hie
   rw [List.getElem_append_right (by omega)]
   simp only [hl,DO,B6]
   exact hx
section
variable {H : Type} {enc : TypeId × Value → H} {w : World} {sp : Nat → Bool} {held : Bool}
def kc (t:TypeId) (d:DataW H):Prop:=∀ n∈d.weights Tryz.prog t,n≤140737488351232
theorem iQ {e:TypeId}:∀ {l:List (DataW H)} {d:DataW H},d∈l→∀ n∈d.weights Tryz.prog e,n∈DataW.weightsAll Tryz.prog e l
 | [],_,h,_,_=>by cases h
 | x :: l,d,h,n,hn=>by
  unfold DataW.weightsAll
  rcases Co.1 h with rfl | h
  ·exact De _ hn
  ·exact List.mem_append_right _ (iQ h n hn)
theorem gt {t e:TypeId} {k fuel:Nat} {cs:List Value} {x:DataW H×List MemPlace} (ht:Tryz.prog.underlying t=some (.slice e)) (hk:Tryz.prog.cellsOf e=k) (hk0:0<k) (hby:1≤Tryz.prog.bytesOf e) (h:DataW.trod enc Tryz.prog w 0 sp held fuel t cs=some x) (hf:kc t x.1) :
  ∃ (p:Option Addr) (len cap:Nat),cs=[.slice p len cap]∧len≤cap∧cap≤maxLen∧len≤140737488351232∧(0<len→∃ b o,p=some ⟨b,o,none⟩∧b<w.heap.size∧∀ i,i<len→∃ (ecs:List Value) (n:Nat) (y:DataW H×List MemPlace),ecs.length=k∧(∀ j,j<k→w.cell? ⟨b,o+i*k+j,none⟩=ecs[j]?)∧DataW.trod enc Tryz.prog w 0 sp held n e ecs=some y∧kc e y.1):=by
 rcases Go.Deep.open_slice ht h with ⟨rfl,_⟩ | ⟨a,len,cap,m,n,D,Pl,rfl,_,hl,hm,hmm,hxe,hx⟩
 ·exact ⟨none,0,0,rfl,Ca _,Cw _,Cw _,fun h=>absurd h (Dv 0)⟩
 ·have hlm:len≤m:=by rw [hmm];split<;>omega
  have hfe:∀ i,i<len→kc e (D i):=fun i hi n hn=>hf n (by
   rw [hxe]
   show n∈DataW.weights Tryz.prog t (.slice _ _)
   unfold DataW.weights
   rw [ht]
   exact CW _ (De _ (iQ (CM.2 ⟨i,Cz.2 hi,rfl⟩) n hn)))
  have hlr:len≤140737488351232:=by
   have h1:=hf ((((List.range len).map D).length+((List.range (m-len)).map fun j=>D (len+j)).length)*Tryz.prog.bytesOf e) (by
    rw [hxe]
    show _∈DataW.weights Tryz.prog t (.slice _ _)
    unfold DataW.weights
    rw [ht]
    exact CJ ..)
   simp only [DA,List.length_range] at h1
   have h2:len*1≤(len+(m-len))*Tryz.prog.bytesOf e:=DF (by omega) hby
   omega
  refine ⟨some a,len,cap,rfl,hl,hm,hlr,fun h0=>?_⟩
  rw [hk] at hx
  have cellAt:∀ i,i<len→∃ (ecs:List Value),ecs.length=k∧(∀ j,j<k→w.cell? ((a.add (i*k)).add j)=ecs[j]?)∧∃ y,DataW.trod enc Tryz.prog w 0 sp held n e ecs=some y∧kc e y.1:=fun i hi=>by
   obtain ⟨ecs,h1,h2⟩:=hx i (by omega)
   obtain ⟨_,hlen,hc⟩:=World.cells?_some h1
   exact ⟨ecs,hlen,fun j hj=>hc j hj,_,h2,hfe i hi⟩
  obtain ⟨ecs,hlen,hc,_⟩:=cellAt 0 h0
  have h00:=hc 0 hk0
  rw [D7] at h00
  have hsp:a.spot=none∧a.block<w.heap.size:=by
   have e0:(a.add 0).add 0=a:=by simp [Addr.add]
   rw [e0,Cb (by omega)] at h00
   unfold World.cell? at h00
   split at h00
   ·rename_i c _ _ hb
    split at h00
    ·cases h00
    ·rename_i hs
     exact ⟨by simpa using hs,ax hb⟩
   ·cases h00
  obtain ⟨hs,hb⟩:=hsp
  obtain ⟨b,o,s⟩:=a
  simp only at hs hb
  subst hs
  refine ⟨b,o,rfl,hb,fun i hi=>?_⟩
  obtain ⟨ecs,hlen,hc,y,hy⟩:=cellAt i hi
  refine ⟨ecs,n,y,hlen,fun j hj=>?_,hy⟩
  have ea:((⟨b,o,none⟩:Addr).add (i*k)).add j=⟨b,o+i*k+j,none⟩:=by
   rw [Go.Deep.add_add]
   unfold Addr.add
   split
   ·rename_i hz
    rw [CU,hz,CP]
   ·rw [CU]
  rw [←hc j hj,ea]
theorem fh {t:TypeId} {fuel:Nat} {cs:List Value} {x:DataW H×List MemPlace} (ht:Tryz.prog.underlying t=some .string) (h:DataW.trod enc Tryz.prog w 0 sp held fuel t cs=some x) (hf:kc t x.1):∃ s:ByteArray,cs=[.string s]∧s.size≤140737488351232:=by
 obtain ⟨s,e,hx,hs⟩:=DataW.trod_string ht h
 refine ⟨s,e,?_⟩
 have:=hf s.data.toList.length (by rw [hx];unfold DataW.weights;exact CJ ..)
 simpa using this
theorem kP {t:TypeId} {k:IntKind} {fuel:Nat} {cs:List Value} {x:DataW H×List MemPlace} (ht:Tryz.prog.underlying t=some (.int k)) (h:DataW.trod enc Tryz.prog w 0 sp held fuel t cs=some x):∃ z:Int,cs=[.int k z]:=by
 obtain ⟨z,e,_⟩:=DataW.trod_int ht h
 exact ⟨z,e⟩
theorem zx {t:TypeId} {fuel:Nat} {cs:List Value} {x:DataW H×List MemPlace} (ht:Tryz.prog.underlying t=some (.slice 9)) (h:DataW.trod enc Tryz.prog w 0 sp held fuel t cs=some x) (hf:kc t x.1) :
  ∃ (p:Option Addr) (cap:Nat) (l:List ByteArray),cs=[.slice p l.length cap]∧l.length≤140737488351232∧cR w p l:=by
 obtain ⟨p,len,cap,rfl,hl,hm,hr,hx⟩:=gt ht (by kernel_rfl:Tryz.prog.cellsOf 9=1) (by decide) (of_decide_eq_true (by kernel_rfl)) h hf
 by_cases h0:0<len
 ·obtain ⟨b,o,rfl,hb,hx⟩:=hx h0
  obtain ⟨l,rfl,hp⟩:=gM len (fun i s=>w.cell? ⟨b,o+i,none⟩=some (.string s)) (fun i hi=>by
   obtain ⟨ecs,n,y,h1,h2,h3,h4⟩:=hx i hi
   obtain ⟨s,rfl,_⟩:=fh (by kernel_rfl) h3 h4
   exact ⟨s,by have:=h2 0 (by omega);rw [DG,CP] at this;exact this⟩)
  exact ⟨_,cap,l,rfl,hr,⟨fun _=>⟨b,o,rfl,hb,hp⟩⟩⟩
 ·obtain rfl:len=0:=by omega
  exact ⟨p,cap,[],rfl,hr,⟨fun h=>absurd h (Dv 0)⟩⟩
theorem bZ {t:TypeId} {fs:Array Field} {fuel:Nat} {cs:List Value} {x:DataW H×List MemPlace} (ht:Tryz.prog.underlying t=some (.struct fs)) (h:DataW.trod enc Tryz.prog w 0 sp held fuel t cs=some x) (hw:kc t x.1) {i:Nat} {f:Field} (hf:fs[i]?=some f) :
  ∃ n y,DataW.trod enc Tryz.prog w 0 sp held n f.type ((cs.drop f.offset).take (Tryz.prog.cellsOf f.type))=some y∧kc f.type y.1:=by
 obtain ⟨xs,n,_,hxe,_,hl,hx⟩:=DataW.trod_struct ht h
 have h1:=hx i f hf
 have hi:i<xs.length:=by rw [hl];exact (Cd.1 hf).1
 rw [Cb hi] at h1
 refine ⟨n,_,h1,fun m hm=>hw m ?_⟩
 rw [hxe]
 show m∈DataW.weights Tryz.prog t (.agg _)
 unfold DataW.weights
 rw [ht]
 exact DataW.weights_mem_each (j:=i) (by simp only [Dm,Ec,hf,DR]) (by simp only [Dm,Cb hi,DR]) m hm
theorem eV {cs:List Value} {o k:Nat} {v:Value} (h:(cs.drop o).take k=[v]):cs[o]?=some v:=by
 have h1:=congrArg (·[0]?) h
 simp only [Ep,D3,List.getElem?_cons_zero,CP] at h1
 split at h1
 ·exact h1
 ·cases h1
theorem yi {t:TypeId} {fuel:Nat} {cs:List Value} {x:DataW H×List MemPlace} (ht:Tryz.prog.underlying t=some (.slice 65)) (h:DataW.trod enc Tryz.prog w 0 sp held fuel t cs=some x) (hf:kc t x.1) :
  ∃ (p:Option Addr) (cap:Nat) (l:List Nd),cs=[.slice p l.length cap]∧l.length≤140737488351232∧eN w p l∧∀ x∈l,x.rungs.length≤140737488351232:=by
 obtain ⟨p,len,cap,rfl,hl,hm,hr,hx⟩:=gt ht (by kernel_rfl:Tryz.prog.cellsOf 65=2) (by decide) (of_decide_eq_true (by kernel_rfl)) h hf
 by_cases h0:0<len
 ·obtain ⟨b,o,rfl,hb,hx⟩:=hx h0
  obtain ⟨l,rfl,hp⟩:=gM len (fun i (s:Nd)=>(∃ q c,w.cell? ⟨b,o+i*2,none⟩=some (.int .i64 s.guard)∧w.cell? ⟨b,o+i*2+1,none⟩=some (.slice q s.rungs.length c)∧cR w q s.rungs)∧s.rungs.length≤140737488351232) (fun i hi=>by
   obtain ⟨ecs,n,y,h1,h2,h3,h4⟩:=hx i hi
   obtain ⟨n1,y1,f1,gf1⟩:=bZ Tryz.underlying65 h3 h4 (i:=0) rfl
   obtain ⟨n2,y2,f2,gf2⟩:=bZ Tryz.underlying65 h3 h4 (i:=1) rfl
   obtain ⟨z,e1⟩:=kP ny f1
   obtain ⟨q,c,l,e2,hlc,hw⟩:=zx (by kernel_rfl) f2 gf2
   exact ⟨⟨z,l⟩,⟨q,c,(h2 0 (by omega)).trans (eV e1),(h2 1 (by omega)).trans (eV e2),hw⟩,hlc⟩)
  exact ⟨_,cap,l,rfl,hr,⟨fun _=>⟨b,o,rfl,hb,fun i hi=>(hp i hi).1⟩⟩,fun x hx=>by obtain ⟨i,hi,rfl⟩:=CX.1 hx;exact (hp i hi).2⟩
 ·obtain rfl:len=0:=by omega
  exact ⟨p,cap,[],rfl,Cw _,⟨fun h=>absurd h (Dv 0)⟩,fun x hx=>by cases hx⟩
theorem x7 {fuel:Nat} {cs:List Value} {x:DataW H×List MemPlace} (h:DataW.trod enc Tryz.prog w 0 sp held fuel 57 cs=some x) (hf:kc 57 x.1) :
  ∃ (p:Option Addr) (cap:Nat) (l:List Cl),cs=[.slice p l.length cap]∧l.length≤140737488351232∧fL w p l:=by
 obtain ⟨p,len,cap,rfl,hl,hm,hr,hx⟩:=gt Tryz.underlying57 (k:=2) (by kernel_rfl) (by decide) (of_decide_eq_true (by kernel_rfl)) h hf
 by_cases h0:0<len
 ·obtain ⟨b,o,rfl,hb,hx⟩:=hx h0
  obtain ⟨l,rfl,hp⟩:=gM len (fun i (s:Cl)=>w.cell? ⟨b,o+i*2,none⟩=some (.int .i64 s.loop)∧w.cell? ⟨b,o+i*2+1,none⟩=some (.string s.gain)) (fun i hi=>by
   obtain ⟨ecs,n,y,h1,h2,h3,h4⟩:=hx i hi
   obtain ⟨n1,y1,f1,gf1⟩:=bZ Tryz.underlying136 h3 h4 (i:=0) rfl
   obtain ⟨n2,y2,f2,gf2⟩:=bZ Tryz.underlying136 h3 h4 (i:=1) rfl
   obtain ⟨z,e1⟩:=kP ny f1
   obtain ⟨s,e2,_⟩:=fh (by kernel_rfl) f2 gf2
   exact ⟨⟨z,s⟩,(h2 0 (by omega)).trans (eV e1),(h2 1 (by omega)).trans (eV e2)⟩)
  exact ⟨_,cap,l,rfl,hr,⟨fun _=>⟨b,o,rfl,hb,hp⟩⟩⟩
 ·obtain rfl:len=0:=by omega
  exact ⟨p,cap,[],rfl,Cw _,⟨fun h=>absurd h (Dv 0)⟩⟩
theorem yP {t:TypeId} {fuel:Nat} {cs:List Value} {x:DataW H×List MemPlace} (ht:Tryz.prog.underlying t=some (.slice 59)) (h:DataW.trod enc Tryz.prog w 0 sp held fuel t cs=some x) (hf:kc t x.1) :
  ∃ (p:Option Addr) (cap:Nat) (l:List Rg),cs=[.slice p l.length cap]∧l.length≤140737488351232∧cD w p l∧∀ r∈l,lY r:=by
 obtain ⟨p,len,cap,rfl,hl,hm,hr,hx⟩:=gt ht (by kernel_rfl:Tryz.prog.cellsOf 59=7) (by decide) (of_decide_eq_true (by kernel_rfl)) h hf
 by_cases h0:0<len
 ·obtain ⟨b,o,rfl,hb,hx⟩:=hx h0
  obtain ⟨l,rfl,hp⟩:=gM len (fun i (r:Rg)=>(∃ q1 c1 q2 c2,jP w b (o+i*7) r q1 c1 q2 c2)∧lY r) (fun i hi=>by
   obtain ⟨ecs,n,y,h1,h2,h3,h4⟩:=hx i hi
   obtain ⟨n0,y0,f0,gf0⟩:=bZ Tryz.underlying59 h3 h4 (i:=0) rfl
   obtain ⟨n1,y1,f1,gf1⟩:=bZ Tryz.underlying59 h3 h4 (i:=1) rfl
   obtain ⟨n2,y2,f2,gf2⟩:=bZ Tryz.underlying59 h3 h4 (i:=2) rfl
   obtain ⟨n3,y3,f3,gf3⟩:=bZ Tryz.underlying59 h3 h4 (i:=3) rfl
   obtain ⟨n4,y4,f4,gf4⟩:=bZ Tryz.underlying59 h3 h4 (i:=4) rfl
   obtain ⟨n5,y5,f5,gf5⟩:=bZ Tryz.underlying59 h3 h4 (i:=5) rfl
   obtain ⟨n6,y6,f6,gf6⟩:=bZ Tryz.underlying59 h3 h4 (i:=6) rfl
   obtain ⟨s0,e0,m0⟩:=fh (by kernel_rfl) f0 gf0
   obtain ⟨s1,e1,_⟩:=fh (by kernel_rfl) f1 gf1
   obtain ⟨s2,e2,_⟩:=fh (by kernel_rfl) f2 gf2
   obtain ⟨z3,e3⟩:=kP ny f3
   obtain ⟨z4,e4⟩:=kP ny f4
   obtain ⟨q5,c5,l5,e5,m5,hn5,k5⟩:=yi (by kernel_rfl) f5 gf5
   obtain ⟨q6,c6,l6,e6,m6,hn6⟩:=x7 f6 gf6
   exact ⟨⟨s0,s1,s2,z3,z4,l5,l6⟩,⟨q5,c5,q6,c6,(h2 0 (by omega)).trans (eV e0),(h2 1 (by omega)).trans (eV e1),(h2 2 (by omega)).trans (eV e2),(h2 3 (by omega)).trans (eV e3),(h2 4 (by omega)).trans (eV e4),(h2 5 (by omega)).trans (eV e5),(h2 6 (by omega)).trans (eV e6),hn5,hn6⟩,⟨by show s0.size≤_;omega,by show l5.length≤_;omega,by show l6.length≤_;omega,fun x hx=>by have:=k5 x hx;omega⟩⟩)
  exact ⟨_,cap,l,rfl,hr,⟨fun _=>⟨b,o,rfl,hb,fun i hi=>(hp i hi).1⟩⟩,fun x hx=>by obtain ⟨i,hi,rfl⟩:=CX.1 hx;exact (hp i hi).2⟩
 ·obtain rfl:len=0:=by omega
  exact ⟨p,cap,[],rfl,Cw _,⟨fun h=>absurd h (Dv 0)⟩,fun x hx=>by cases hx⟩
theorem Bf {v:Value} {d:DataW H} {pl:List MemPlace} (h:DataW.Trod enc Tryz.prog w 0 sp held 24 v d pl) (hf:kc 24 d) (hX:Gx w):∃ (p:Option Addr) (c:Nat) (gs:List Gd),v.cells.toList=[.slice p gs.length c]∧fk w p c gs:=by
 obtain ⟨fuel,h⟩:=h
 obtain ⟨n0,y0,f0,gf0⟩:=bZ Tryz.underlying24 h hf (i:=0) rfl
 obtain ⟨xs,_,_,_,hcl,_,_⟩:=DataW.trod_struct Tryz.underlying24 h
 have hc1:Tryz.prog.cellsOf 24=1:=by kernel_rfl
 obtain ⟨p,len,cap,e0,hl,hm,hr,hx⟩:=gt Tryz.underlying22 (by kernel_rfl:Tryz.prog.cellsOf 62=2) (by decide) (of_decide_eq_true (by kernel_rfl)) f0 gf0
 have hv:v.cells.toList=[.slice p len cap]:=by
  have h0:=eV e0
  rw [hc1] at hcl
  revert hcl h0
  generalize v.cells.toList=l
  intro hcl h0
  match l,hcl,h0 with
  | [a],_,h0 =>
   have:a=.slice p len cap:=by
    have h1:[a][0]?=some (.slice p len cap):=h0
    simpa using h1
   rw [this]
 by_cases h0:0<len
 ·obtain ⟨b,o,rfl,hb,hx⟩:=hx h0
  obtain ⟨l,rfl,hp⟩:=gM len (fun i (g:Gd)=>(∃ q c,w.cell? ⟨b,o+i*2,none⟩=some (.string g.name)∧w.cell? ⟨b,o+i*2+1,none⟩=some (.slice q g.rungs.length c)∧cD w q g.rungs)∧g.name.size≤140737488351232∧g.rungs.length≤140737488351232∧∀ r∈g.rungs,lY r) (fun i hi=>by
   obtain ⟨ecs,n,y,h1,h2,h3,h4⟩:=hx i hi
   obtain ⟨n0,y0,f0,gf0⟩:=bZ Tryz.underlying62 h3 h4 (i:=0) rfl
   obtain ⟨n1,y1,f1,gf1⟩:=bZ Tryz.underlying62 h3 h4 (i:=1) rfl
   obtain ⟨s0,e0,m0⟩:=fh (by kernel_rfl) f0 gf0
   obtain ⟨q1,c1,l1,e1,m1,hn1,k1⟩:=yP (by kernel_rfl) f1 gf1
   exact ⟨⟨s0,l1⟩,⟨q1,c1,(h2 0 (by omega)).trans (eV e0),(h2 1 (by omega)).trans (eV e1),hn1⟩,m0,m1,k1⟩)
  refine ⟨_,cap,l,hv,⟨⟨fun _=>⟨b,o,rfl,hb,fun i hi=>(hp i hi).1⟩⟩,hX,⟨fun g hg=>?_,fun g hg=>?_,fun g hg=>?_⟩,hl,by unfold maxLen at hm;omega⟩⟩
  ·obtain ⟨i,hi,rfl⟩:=CX.1 hg;have:=(hp i hi).2.1;omega
  ·obtain ⟨i,hi,rfl⟩:=CX.1 hg;exact (hp i hi).2.2.2
  ·obtain ⟨i,hi,rfl⟩:=CX.1 hg;have:=(hp i hi).2.2.1;omega
 ·obtain rfl:len=0:=by omega
  exact ⟨p,cap,[],hv,⟨⟨fun h=>absurd h (Dv 0)⟩,hX,⟨fun g hg=>by (cases hg),fun g hg=>by (cases hg),fun g hg=>by (cases hg)⟩,Cw _,by unfold maxLen at hm;omega⟩⟩
theorem vZ {r:Reach} {base:Nat} {t e:TypeId} {v:Value} {p:Option Addr} {l c:Nat} (ht:Tryz.prog.underlying t=some (.slice e)) (h:Value.okWide Tryz.prog w r base t v) (hv:v.cells.toList=[.slice p l c]):v=.slice p l c:=by
 cases v
 case agg xs =>
  unfold Value.okWide at h
  rw [ht] at h
  simp only [Cell.okWide,ht,Cell.ok] at h
 all_goals (simp [Value.cells] at hv)
 case slice a b d =>
  obtain ⟨rfl,rfl,rfl⟩:=hv
  rfl
theorem AY {r:Reach} {base:Nat} {v:Value} {d:DataW H} {pl:List MemPlace} (h:DataW.Trod enc Tryz.prog w 0 sp held 29 v d pl) (hf:kc 29 d) (hok:Value.okWide Tryz.prog w r base 29 v):∃ l:List Ev,jx w v l∧(l.length:Int)≤9223372036854775807:=by
 obtain ⟨fuel,h⟩:=h
 obtain ⟨p,len,cap,e0,hl,hm,hr,hx⟩:=gt Tryz.underlying29 (by kernel_rfl:Tryz.prog.cellsOf 53=2) (by decide) (of_decide_eq_true (by kernel_rfl)) h hf
 have hv:v=.slice p len cap:=vZ Tryz.underlying29 hok e0
 by_cases h0:0<len
 ·obtain ⟨b,o,rfl,hb,hx⟩:=hx h0
  obtain ⟨l,rfl,hp⟩:=gM len (fun i (s:Ev)=>w.cell? ⟨b,o+i*2,none⟩=some (.int .i64 s.g)∧w.cell? ⟨b,o+i*2+1,none⟩=some (.int .i64 s.k)) (fun i hi=>by
   obtain ⟨ecs,n,y,h1,h2,h3,h4⟩:=hx i hi
   obtain ⟨n0,y0,f0,gf0⟩:=bZ Tryz.underlying53 h3 h4 (i:=0) rfl
   obtain ⟨n1,y1,f1,gf1⟩:=bZ Tryz.underlying53 h3 h4 (i:=1) rfl
   obtain ⟨z,e1⟩:=kP ny f0
   obtain ⟨z2,e2⟩:=kP ny f1
   exact ⟨⟨z,z2⟩,(h2 0 (by omega)).trans (eV e1),(h2 1 (by omega)).trans (eV e2)⟩)
  exact ⟨l,⟨_,cap,hv,fun _=>⟨b,o,rfl,hb,hp⟩⟩,by omega⟩
 ·obtain rfl:len=0:=by omega
  exact ⟨[],⟨p,cap,hv,fun h=>absurd h (Dv 0)⟩,by simp⟩
end
end Go.Proofs.YtnkgbocdpngldaaGreatDoor

namespace Go.Proofs.YtnkgbocdpngldaaGreatDoor
open Go.RowKit Dc Dg
open Go.ChangeShapes Go.WideShapes Go.ChangeAt
set_option maxRecDepth 100000
theorem own:ownKnob Tryz.prog.godebug=none:=by kernel_rfl
def oC:List (String×DataW Unit):=[("math/bits.deBruijn32tab", Rows.laid_math_bits_deBruijn32tab),("math/bits.deBruijn64tab", Rows.laid_math_bits_deBruijn64tab),("internal/strconv.uint64pow10", Rows.laid_internal_strconv_uint64pow10),("unicode/utf8.acceptRanges", Rows.laid_unicode_utf8_acceptRanges),("strconv.ErrRange", Rows.laid_strconv_ErrRange),("strconv.ErrSyntax", Rows.laid_strconv_ErrSyntax),("unicode/utf8.first", Rows.laid_unicode_utf8_first)]
theorem qV {H:Type} {enc:TypeId×Value→H} {a:Assume} {C:Checked} {os:Os} {f:FuncId} {fn:Func} {s:ChangeSpec} {conds:List PathCond} {apart fresh handsOn again:Bool} {X:World→Array Value→Prop}
  (hX:∀ (w w':World) (args:Array Value),w.heap=w'.heap→X w args→X w' args)
  (own:ownKnob C.prog.godebug=none) (started:os.Started) (noInit:C.prog.inits.idxOf? f=none) (hfn:C.prog.funcs[f]?=some fn)
  (witness:∃ (w:World) (tape:Tape) (i:Input),w.os=os∧(w.forCall tape i).Shaped C.prog∧i.vars=[]∧Input.okWide C.prog (w.forCall tape i) .any w.heap.size f i ∧
   ((s.pre enc C.prog fn conds apart (w.forCall tape i).memory i.args∧X (w.forCall tape i).memory i.args)∧sizedMet enc C.prog fn (OpenSpec.ofChange s) apart (w.forCall tape i).memory i.args)∧a.holds C.prog (lone (Frame.enter C.prog f i.args .normal) [] (w.forCall tape i)))
  (contract:∀ (W:World) (base:Nat) (args:Array Value) (ds gs:List (DataW H)) (before:List MemPlace),
   (∀ (j:Nat) t v,fn.params[j]?=some t→args[j]?=some v→Value.okWide C.prog W .any base t v) →
   DataW.Whole enc C.prog fn.params.toList s.vars apart W args.toList ds gs before →
   (DataW.weightsEach C.prog (fn.params.toList++s.plain.varTypes C.prog) (ds++gs)).all (·≤reachBytes)=true→X W args→W.ShapedOpen C.prog →
   Calls C.prog f args W fun e W'=>∃ v,e=.returned v∧s.post enc C.prog fn apart fresh handsOn again W args v W') :
  ReturnsInHanded a C os f .any (fun w args=>(s.pre enc C.prog fn conds apart w args∧X w args)∧sizedMet enc C.prog fn (OpenSpec.ofChange s) apart w args) (s.post enc C.prog fn apart fresh handsOn again):=by
 refine returnsInHanded_of_calls own started noInit witness ?_
 intro w tape i _ hsh _ hok hpre hholds
 obtain ⟨_,_,_,fn',hfn',_,_,_,_,hval⟩:=hok
 have e:fn'=fn:=Option.some.inj (hfn'.symm.trans hfn)
 subst e
 obtain ⟨⟨⟨ds,gs,before,hw,hc⟩,hx⟩,hz⟩:=hpre
 have hw':=DataW.Whole.of_heap (w':=w.forCall tape i) (by rfl) hw
 refine (contract (w.forCall tape i) w.heap.size i.args ds gs before hval hw' (hz.weights hw) (hX _ _ _ (by rfl) hx) hsh).mono fun e W' ⟨v,he,hp⟩=>?_
 subst he
 exact ChangeSpec.post_blind hp
theorem qL {H:Type} {enc:TypeId×Value→H} {w:World} {base:Nat} {sp:Nat→Bool} {held:Bool} {fuel:Nat} {t:TypeId} {cs:List Value} {n:String} {d:DataW H} {p:List MemPlace} {ms:Array (String×TypeId)} (ht:Tryz.prog.underlying t=some (.interface ms)) (h:DataW.trod enc Tryz.prog w base sp held fuel t cs=some (.iface n d,p)):∃ u v,cs=[.iface u v]:=by
 cases fuel with
 | zero=>simp [DataW.trod] at h
 | succ fuel =>
  unfold DataW.trod at h
  rw [ht] at h
  split at h<;>first | (cases h;done) | skip
  all_goals first | exact ⟨_,_,rfl⟩ | (simp_all;done)
theorem yv:(Rows.laid_internal_strconv_uint64pow10:DataW Unit)=Lib.tabData .u64 Lib.pow10Tab:=by kernel_rfl
theorem BA {W:World} (hL:laidMetH Tryz.prog oC W) (hsh:W.ShapedOpen Tryz.prog):Gx W:=by
 rw [Go.MakeChecks.laidMetH_plain _ _ _ (by kernel_rfl)] at hL
 obtain ⟨ps,hv,_,_⟩:=hL
 unfold oC at hv
 obtain ⟨g6,t6,c6,f6,p6,q6,hg6,ht6,hv6,hd6,hv,_⟩:=hv
 obtain ⟨g7,t7,c7,f7,p7,q7,hg7,ht7,hv7,hd7,hv,_⟩:=hv
 obtain ⟨g5,t5,c5,f5,p5,q5,hg5,ht5,hv5,hd5,hv,_⟩:=hv
 obtain ⟨g4,t4,c4,f4,p4,q4,hg4,ht4,hv4,hd4,hv,_⟩:=hv
 obtain ⟨g1,t1,c1,f1,p1,q1,hg1,ht1,hv1,hd1,hv,_⟩:=hv
 obtain ⟨g0,t0,c0,f0,p0,q0,hg0,ht0,hv0,hd0,_,_⟩:=hv
 have n0:Tryz.prog.globalNamed "strconv.ErrSyntax" = some 0:=by kernel_rfl
 have n1:Tryz.prog.globalNamed "strconv.ErrRange" = some 1:=by kernel_rfl
 have n5:=lD
 have y0:(Tryz.prog.globals[0]?).map (·.type)=some 199:=by kernel_rfl
 have y1:(Tryz.prog.globals[1]?).map (·.type)=some 199:=by kernel_rfl
 obtain rfl:=Option.some.inj (n0.symm.trans hg0)
 obtain rfl:=Option.some.inj (n1.symm.trans hg1)
 obtain rfl:=Option.some.inj (n5.symm.trans hg5)
 obtain rfl:=Option.some.inj (y0.symm.trans ht0)
 obtain rfl:=Option.some.inj (y1.symm.trans ht1)
 have hif:=Tryz.underlying199
 have k0:=World.var?_cell hg0 hv0 0
 have k1:=World.var?_cell hg1 hv1 0
 obtain ⟨u0,v0,e0⟩:=qL hif hd0
 obtain ⟨u1,v1,e1⟩:=qL hif hd1
 rw [←Ec,e0] at k0
 rw [←Ec,e1] at k1
 rw [yv] at hd5
 obtain ⟨T,hT,e,hu,he⟩:∃ T,(Tryz.prog.globals[5]?).map (·.type)=some T∧∃ e,Tryz.prog.underlying T=some (.array 20 e)∧(Tryz.prog.underlying e=some (.int .u64)∧Tryz.prog.cellsOf e=1∧Tryz.prog.cellsOf T=20) :=
  ⟨296,by kernel_rfl,243,by kernel_rfl,by kernel_rfl,by kernel_rfl,by kernel_rfl⟩
 obtain rfl:=Option.some.inj (hT.symm.trans ht5)
 have ep:=Lib.cells_of_tab hu he.1 he.2.1 he.2.2 hd5
 have hsz:8≤W.heap.size:=by
  have h7:(((begin Tryz.prog (fun _ _=>0) default).world.heap[7]?).bind Obj.row?).isSome=true:=by kernel_rfl
  obtain ⟨⟨zero,t⟩,hz⟩:=Option.isSome_iff_exists.1 h7
  obtain ⟨cs,hh,_⟩:=hsh.1 7 zero t (of_decide_eq_true (by kernel_rfl)) hz
  have:=ax hh
  omega
 refine ⟨⟨?_,?_,hsz⟩,⟨u0,v0,k0⟩,⟨u1,v1,k1⟩⟩
 ·unfold pY Lib.TabIs
  rw [hv5,←ep]
 ·exact cell_of_shapedOpen_int (g:=2) (t:=3) (zero:=#[.int .i64 0]) hsh (of_decide_eq_true (by kernel_rfl)) (by kernel_rfl) rfl (by kernel_rfl) (by kernel_rfl) ny
end Go.Proofs.YtnkgbocdpngldaaGreatDoor
