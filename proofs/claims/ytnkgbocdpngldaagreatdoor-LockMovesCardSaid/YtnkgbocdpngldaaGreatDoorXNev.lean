/- Lemmas of this claim. -/
import Derived.Deep.Slices
import Derived.OpenShut
import Derived.Test.YtnkgbocdpngldaaGreatDoorRows
import Derived.ProofKit
import Derived.LaidMore
import Derived.HandedShaped
import Derived.Shelf.Vars
import Derived.Lay
import Derived.Stop.Joined
import Derived.Test.YtnkgbocdpngldaaGreatDoorXMach
import Derived.Test.YtnkgbocdpngldaaGreatDoorXStat
import Derived.Test.YtnkgbocdpngldaaGreatDoorXRun
set_option linter.all false
set_option maxRecDepth 100000
set_option maxHeartbeats 8000000
namespace Go.Proofs.YtnkgbocdpngldaaGreatDoor
open Go.RowKit Dc Dg
theorem EvR.slice {n:Nat}{w:World}{v:Value}{l:List Ev} (h:EvR n w v l):∃ p c,v=.slice p l.length c:=by
 obtain⟨p,c,e,_⟩:=h.q.at_
 exact⟨p,c,e⟩
open Go.ChangeShapes Go.WideShapes
set_option maxRecDepth 100000
theorem h_ {α:Type}:∀ (n:Nat) (p:Nat→α→Prop),(∀ i,i<n→∃ x,p i x)→∃ l:List α,l.length=n∧∀ i (h:i<l.length),p i l[i]
 | 0,_,_=>⟨[],rfl,fun i h=>by simp at h⟩
 | n+1,p,h=>by
  obtain⟨l,hl,hp⟩:=h_ n p (fun i hi=>h i (by omega))
  obtain⟨x,hx⟩:=h n (by omega)
  refine⟨l++[x],by simp[hl],fun i hi=>?_⟩
  by_cases hin:i<l.length
  ·rw[List.getElem_append_left hin];exact hp i hin
  ·have hie:i=n:=by simp at hi;omega
   subst hie
   rw[List.getElem_append_right (by omega)]
   simp only[hl,Fj,C3]
   exact hx
section
variable {H : Type} {enc : TypeId × Value → H} {w : World} {sp : Nat → Bool} {held : Bool}
def iB (t:TypeId) (d:DataW H):Prop:=∀ n∈d.weights Tryz.prog t,n≤140737488351232
theorem jd {e:TypeId}:∀ {l:List (DataW H)}{d:DataW H},d∈l→∀ n∈d.weights Tryz.prog e,n∈DataW.weightsAll Tryz.prog e l
 | [],_,h,_,_=>by cases h
 | x :: l,d,h,n,hn=>by
  unfold DataW.weightsAll
  rcases Dk.1 h with rfl | h
  ·exact Ea _ hn
  ·exact List.mem_append_right _ (jd h n hn)
theorem gM {t e:TypeId}{k fuel:Nat}{cs:List Value}{x:DataW H×List MemPlace} (ht:Tryz.prog.underlying t=some (.slice e)) (hk:Tryz.prog.cellsOf e=k) (hk0:0<k) (hby:1≤Tryz.prog.bytesOf e) (h:DataW.trod enc Tryz.prog w 0 sp held fuel t cs=some x) (hf:iB t x.1) :
  ∃ (p:Option Addr) (len cap:Nat),cs=[.slice p len cap]∧len≤cap∧cap≤maxLen∧len≤140737488351232∧(0<len→∃ b o,p=some ⟨b,o,none⟩∧b<w.heap.size∧∀ i,i<len→∃ (ecs:List Value) (n:Nat) (y:DataW H×List MemPlace),ecs.length=k∧(∀ j,j<k→w.cell? ⟨b,o+i*k+j,none⟩=ecs[j]?)∧DataW.trod enc Tryz.prog w 0 sp held n e ecs=some y∧iB e y.1):=by
 rcases Go.Deep.open_slice ht h with ⟨rfl,_⟩ | ⟨a,len,cap,m,n,D,Pl,rfl,_,hl,hm,hmm,hxe,hx⟩
 ·exact⟨none,0,0,rfl,C6 _,Do _,Do _,fun h=>absurd h (Ej 0)⟩
 ·have hlm:len≤m:=by rw[hmm];split<;>omega
  have hfe:∀ i,i<len→iB e (D i):=fun i hi n hn=>hf n (by
   rw[hxe]
   show n∈DataW.weights Tryz.prog t (.slice _ _)
   unfold DataW.weights
   rw[ht]
   exact DZ _ (Ea _ (jd (DO.2 ⟨i,Dv.2 hi,rfl⟩) n hn)))
  have hlr:len≤140737488351232:=by
   have h1:=hf ((((List.range len).map D).length+((List.range (m-len)).map fun j=>D (len+j)).length)*Tryz.prog.bytesOf e) (by
    rw[hxe]
    show _∈DataW.weights Tryz.prog t (.slice _ _)
    unfold DataW.weights
    rw[ht]
    exact DC ..)
   simp only[Em,List.length_range] at h1
   have h2:len*1≤(len+(m-len))*Tryz.prog.bytesOf e:=EM (by omega) hby
   omega
  refine⟨some a,len,cap,rfl,hl,hm,hlr,fun h0=>?_⟩
  rw[hk] at hx
  have cellAt:∀ i,i<len→∃ (ecs:List Value),ecs.length=k∧(∀ j,j<k→w.cell? ((a.add (i*k)).add j)=ecs[j]?)∧∃ y,DataW.trod enc Tryz.prog w 0 sp held n e ecs=some y∧iB e y.1:=fun i hi=>by
   obtain⟨ecs,h1,h2⟩:=hx i (by omega)
   obtain⟨_,hlen,hc⟩:=World.cells?_some h1
   exact⟨ecs,hlen,fun j hj=>hc j hj,_,h2,hfe i hi⟩
  obtain⟨ecs,hlen,hc,_⟩:=cellAt 0 h0
  have h00:=hc 0 hk0
  rw[Fk] at h00
  have hsp:a.spot=none∧a.block<w.heap.size:=by
   have e0:(a.add 0).add 0=a:=by simp[Addr.add]
   rw[e0,C7 (by omega)] at h00
   unfold World.cell? at h00
   split at h00
   ·rename_i c _ _ hb
    split at h00
    ·cases h00
    ·rename_i hs
     exact⟨by simpa using hs,aw hb⟩
   ·cases h00
  obtain⟨hs,hb⟩:=hsp
  obtain⟨b,o,s⟩:=a
  simp only at hs hb
  subst hs
  refine⟨b,o,rfl,hb,fun i hi=>?_⟩
  obtain⟨ecs,hlen,hc,y,hy⟩:=cellAt i hi
  refine⟨ecs,n,y,hlen,fun j hj=>?_,hy⟩
  have ea:((⟨b,o,none⟩:Addr).add (i*k)).add j=⟨b,o+i*k+j,none⟩:=by
   rw[Go.Deep.add_add]
   unfold Addr.add
   split
   ·rename_i hz
    rw[DS,hz,DJ]
   ·rw[DS]
  rw[←hc j hj,ea]
theorem fz {t:TypeId}{fuel:Nat}{cs:List Value}{x:DataW H×List MemPlace} (ht:Tryz.prog.underlying t=some .string) (h:DataW.trod enc Tryz.prog w 0 sp held fuel t cs=some x) (hf:iB t x.1):∃ s:ByteArray,cs=[.string s]∧s.size≤140737488351232:=by
 obtain⟨s,e,hx,hs⟩:=DataW.trod_string ht h
 refine⟨s,e,?_⟩
 have:=hf s.data.toList.length (by rw[hx];unfold DataW.weights;exact DC ..)
 simpa using this
theorem km {t:TypeId}{k:IntKind}{fuel:Nat}{cs:List Value}{x:DataW H×List MemPlace} (ht:Tryz.prog.underlying t=some (.int k)) (h:DataW.trod enc Tryz.prog w 0 sp held fuel t cs=some x):∃ z:Int,cs=[.int k z]:=by
 obtain⟨z,e,_⟩:=DataW.trod_int ht h
 exact⟨z,e⟩
theorem Av {t:TypeId}{fuel:Nat}{cs:List Value}{x:DataW H×List MemPlace} (ht:Tryz.prog.underlying t=some (.slice 9)) (h:DataW.trod enc Tryz.prog w 0 sp held fuel t cs=some x) (hf:iB t x.1) :
  ∃ (p:Option Addr) (cap:Nat) (l:List ByteArray),cs=[.slice p l.length cap]∧l.length≤140737488351232∧cV w p l:=by
 obtain⟨p,len,cap,rfl,hl,hm,hr,hx⟩:=gM ht (by kernel_rfl:Tryz.prog.cellsOf 9=1) (by decide) (of_decide_eq_true (by kernel_rfl)) h hf
 by_cases h0:0<len
 ·obtain⟨b,o,rfl,hb,hx⟩:=hx h0
  obtain⟨l,rfl,hp⟩:=h_ len (fun i s=>w.cell? ⟨b,o+i,none⟩=some (.string s)) (fun i hi=>by
   obtain⟨ecs,n,y,h1,h2,h3,h4⟩:=hx i hi
   obtain⟨s,rfl,_⟩:=fz (by kernel_rfl) h3 h4
   exact⟨s,by have:=h2 0 (by omega);rw[Er,DJ] at this;exact this⟩)
  exact⟨_,cap,l,rfl,hr,⟨fun _=>⟨b,o,rfl,hb,hp⟩⟩⟩
 ·obtain rfl:len=0:=by omega
  exact⟨p,cap,[],rfl,hr,⟨fun h=>absurd h (Ej 0)⟩⟩
theorem bQ {t:TypeId}{fs:Array Field}{fuel:Nat}{cs:List Value}{x:DataW H×List MemPlace} (ht:Tryz.prog.underlying t=some (.struct fs)) (h:DataW.trod enc Tryz.prog w 0 sp held fuel t cs=some x) (hw:iB t x.1) {i:Nat}{f:Field} (hf:fs[i]?=some f) :
  ∃ n y,DataW.trod enc Tryz.prog w 0 sp held n f.type ((cs.drop f.offset).take (Tryz.prog.cellsOf f.type))=some y∧iB f.type y.1:=by
 obtain⟨xs,n,_,hxe,_,hl,hx⟩:=DataW.trod_struct ht h
 have h1:=hx i f hf
 have hi:i<xs.length:=by rw[hl];exact (C_.1 hf).1
 rw[C7 hi] at h1
 refine⟨n,_,h1,fun m hm=>hw m ?_⟩
 rw[hxe]
 show m∈DataW.weights Tryz.prog t (.agg _)
 unfold DataW.weights
 rw[ht]
 exact DataW.weights_mem_each (j:=i) (by simp only[Ef,Fq,hf,EU]) (by simp only[Ef,C7 hi,EU]) m hm
theorem eH {cs:List Value}{o k:Nat}{v:Value} (h:(cs.drop o).take k=[v]):cs[o]?=some v:=by
 have h1:=congrArg (·[0]?) h
 simp only[FC,Fg,List.getElem?_cons_zero,DJ] at h1
 split at h1
 ·exact h1
 ·cases h1
theorem zh {t:TypeId}{fuel:Nat}{cs:List Value}{x:DataW H×List MemPlace} (ht:Tryz.prog.underlying t=some (.slice 65)) (h:DataW.trod enc Tryz.prog w 0 sp held fuel t cs=some x) (hf:iB t x.1) :
  ∃ (p:Option Addr) (cap:Nat) (l:List Nd),cs=[.slice p l.length cap]∧l.length≤140737488351232∧fb w p l∧∀ x∈l,x.rungs.length≤140737488351232:=by
 obtain⟨p,len,cap,rfl,hl,hm,hr,hx⟩:=gM ht (by kernel_rfl:Tryz.prog.cellsOf 65=2) (by decide) (of_decide_eq_true (by kernel_rfl)) h hf
 by_cases h0:0<len
 ·obtain⟨b,o,rfl,hb,hx⟩:=hx h0
  obtain⟨l,rfl,hp⟩:=h_ len (fun i (s:Nd)=>(∃ q c,w.cell? ⟨b,o+i*2,none⟩=some (.int .i64 s.guard)∧w.cell? ⟨b,o+i*2+1,none⟩=some (.slice q s.rungs.length c)∧cV w q s.rungs)∧s.rungs.length≤140737488351232) (fun i hi=>by
   obtain⟨ecs,n,y,h1,h2,h3,h4⟩:=hx i hi
   obtain⟨n1,y1,f1,gf1⟩:=bQ Tryz.underlying65 h3 h4 (i:=0) rfl
   obtain⟨n2,y2,f2,gf2⟩:=bQ Tryz.underlying65 h3 h4 (i:=1) rfl
   obtain⟨z,e1⟩:=km lN f1
   obtain⟨q,c,l,e2,hlc,hw⟩:=Av (by kernel_rfl) f2 gf2
   exact⟨⟨z,l⟩,⟨q,c,(h2 0 (by omega)).trans (eH e1),(h2 1 (by omega)).trans (eH e2),hw⟩,hlc⟩)
  exact⟨_,cap,l,rfl,hr,⟨fun _=>⟨b,o,rfl,hb,fun i hi=>(hp i hi).1⟩⟩,fun x hx=>by obtain⟨i,hi,rfl⟩:=D0.1 hx;exact (hp i hi).2⟩
 ·obtain rfl:len=0:=by omega
  exact⟨p,cap,[],rfl,Do _,⟨fun h=>absurd h (Ej 0)⟩,fun x hx=>by cases hx⟩
theorem yZ {fuel:Nat}{cs:List Value}{x:DataW H×List MemPlace} (h:DataW.trod enc Tryz.prog w 0 sp held fuel 57 cs=some x) (hf:iB 57 x.1) :
  ∃ (p:Option Addr) (cap:Nat) (l:List Cl),cs=[.slice p l.length cap]∧l.length≤140737488351232∧e_ w p l:=by
 obtain⟨p,len,cap,rfl,hl,hm,hr,hx⟩:=gM Tryz.underlying57 (k:=2) (by kernel_rfl) (by decide) (of_decide_eq_true (by kernel_rfl)) h hf
 by_cases h0:0<len
 ·obtain⟨b,o,rfl,hb,hx⟩:=hx h0
  obtain⟨l,rfl,hp⟩:=h_ len (fun i (s:Cl)=>w.cell? ⟨b,o+i*2,none⟩=some (.int .i64 s.loop)∧w.cell? ⟨b,o+i*2+1,none⟩=some (.string s.gain)) (fun i hi=>by
   obtain⟨ecs,n,y,h1,h2,h3,h4⟩:=hx i hi
   obtain⟨n1,y1,f1,gf1⟩:=bQ Tryz.underlying136 h3 h4 (i:=0) rfl
   obtain⟨n2,y2,f2,gf2⟩:=bQ Tryz.underlying136 h3 h4 (i:=1) rfl
   obtain⟨z,e1⟩:=km lN f1
   obtain⟨s,e2,_⟩:=fz (by kernel_rfl) f2 gf2
   exact⟨⟨z,s⟩,(h2 0 (by omega)).trans (eH e1),(h2 1 (by omega)).trans (eH e2)⟩)
  exact⟨_,cap,l,rfl,hr,⟨fun _=>⟨b,o,rfl,hb,hp⟩⟩⟩
 ·obtain rfl:len=0:=by omega
  exact⟨p,cap,[],rfl,Do _,⟨fun h=>absurd h (Ej 0)⟩⟩
theorem zR {t:TypeId}{fuel:Nat}{cs:List Value}{x:DataW H×List MemPlace} (ht:Tryz.prog.underlying t=some (.slice 59)) (h:DataW.trod enc Tryz.prog w 0 sp held fuel t cs=some x) (hf:iB t x.1) :
  ∃ (p:Option Addr) (cap:Nat) (l:List Rg),cs=[.slice p l.length cap]∧l.length≤140737488351232∧cT w p l∧∀ r∈l,mK r:=by
 obtain⟨p,len,cap,rfl,hl,hm,hr,hx⟩:=gM ht (by kernel_rfl:Tryz.prog.cellsOf 59=7) (by decide) (of_decide_eq_true (by kernel_rfl)) h hf
 by_cases h0:0<len
 ·obtain⟨b,o,rfl,hb,hx⟩:=hx h0
  obtain⟨l,rfl,hp⟩:=h_ len (fun i (r:Rg)=>(∃ q1 c1 q2 c2,j8 w b (o+i*7) r q1 c1 q2 c2)∧mK r) (fun i hi=>by
   obtain⟨ecs,n,y,h1,h2,h3,h4⟩:=hx i hi
   obtain⟨n0,y0,f0,gf0⟩:=bQ Tryz.underlying59 h3 h4 (i:=0) rfl
   obtain⟨n1,y1,f1,gf1⟩:=bQ Tryz.underlying59 h3 h4 (i:=1) rfl
   obtain⟨n2,y2,f2,gf2⟩:=bQ Tryz.underlying59 h3 h4 (i:=2) rfl
   obtain⟨n3,y3,f3,gf3⟩:=bQ Tryz.underlying59 h3 h4 (i:=3) rfl
   obtain⟨n4,y4,f4,gf4⟩:=bQ Tryz.underlying59 h3 h4 (i:=4) rfl
   obtain⟨n5,y5,f5,gf5⟩:=bQ Tryz.underlying59 h3 h4 (i:=5) rfl
   obtain⟨n6,y6,f6,gf6⟩:=bQ Tryz.underlying59 h3 h4 (i:=6) rfl
   obtain⟨s0,e0,m0⟩:=fz (by kernel_rfl) f0 gf0
   obtain⟨s1,e1,_⟩:=fz (by kernel_rfl) f1 gf1
   obtain⟨s2,e2,_⟩:=fz (by kernel_rfl) f2 gf2
   obtain⟨z3,e3⟩:=km lN f3
   obtain⟨z4,e4⟩:=km lN f4
   obtain⟨q5,c5,l5,e5,m5,hn5,k5⟩:=zh (by kernel_rfl) f5 gf5
   obtain⟨q6,c6,l6,e6,m6,hn6⟩:=yZ f6 gf6
   exact⟨⟨s0,s1,s2,z3,z4,l5,l6⟩,⟨q5,c5,q6,c6,(h2 0 (by omega)).trans (eH e0),(h2 1 (by omega)).trans (eH e1),(h2 2 (by omega)).trans (eH e2),(h2 3 (by omega)).trans (eH e3),(h2 4 (by omega)).trans (eH e4),(h2 5 (by omega)).trans (eH e5),(h2 6 (by omega)).trans (eH e6),hn5,hn6⟩,⟨by show s0.size≤_;omega,by show l5.length≤_;omega,by show l6.length≤_;omega,fun x hx=>by have:=k5 x hx;omega⟩⟩)
  exact⟨_,cap,l,rfl,hr,⟨fun _=>⟨b,o,rfl,hb,fun i hi=>(hp i hi).1⟩⟩,fun x hx=>by obtain⟨i,hi,rfl⟩:=D0.1 hx;exact (hp i hi).2⟩
 ·obtain rfl:len=0:=by omega
  exact⟨p,cap,[],rfl,Do _,⟨fun h=>absurd h (Ej 0)⟩,fun x hx=>by cases hx⟩
theorem Cj {v:Value}{d:DataW H}{pl:List MemPlace} (h:DataW.Trod enc Tryz.prog w 0 sp held 24 v d pl) (hf:iB 24 d) (hX:Gx w):∃ (p:Option Addr) (c:Nat) (gs:List Gd),v.cells.toList=[.slice p gs.length c]∧d8 w p c gs:=by
 obtain⟨fuel,h⟩:=h
 obtain⟨n0,y0,f0,gf0⟩:=bQ Tryz.underlying24 h hf (i:=0) rfl
 obtain⟨xs,_,_,_,hcl,_,_⟩:=DataW.trod_struct Tryz.underlying24 h
 have hc1:Tryz.prog.cellsOf 24=1:=by kernel_rfl
 obtain⟨p,len,cap,e0,hl,hm,hr,hx⟩:=gM Tryz.underlying22 (by kernel_rfl:Tryz.prog.cellsOf 62=2) (by decide) (of_decide_eq_true (by kernel_rfl)) f0 gf0
 have hv:v.cells.toList=[.slice p len cap]:=by
  have h0:=eH e0
  rw[hc1] at hcl
  revert hcl h0
  generalize v.cells.toList=l
  intro hcl h0
  match l,hcl,h0 with
  | [a],_,h0 =>
   have:a=.slice p len cap:=by
    have h1:[a][0]?=some (.slice p len cap):=h0
    simpa using h1
   rw[this]
 by_cases h0:0<len
 ·obtain⟨b,o,rfl,hb,hx⟩:=hx h0
  obtain⟨l,rfl,hp⟩:=h_ len (fun i (g:Gd)=>(∃ q c,w.cell? ⟨b,o+i*2,none⟩=some (.string g.name)∧w.cell? ⟨b,o+i*2+1,none⟩=some (.slice q g.rungs.length c)∧cT w q g.rungs)∧g.name.size≤140737488351232∧g.rungs.length≤140737488351232∧∀ r∈g.rungs,mK r) (fun i hi=>by
   obtain⟨ecs,n,y,h1,h2,h3,h4⟩:=hx i hi
   obtain⟨n0,y0,f0,gf0⟩:=bQ Tryz.underlying62 h3 h4 (i:=0) rfl
   obtain⟨n1,y1,f1,gf1⟩:=bQ Tryz.underlying62 h3 h4 (i:=1) rfl
   obtain⟨s0,e0,m0⟩:=fz (by kernel_rfl) f0 gf0
   obtain⟨q1,c1,l1,e1,m1,hn1,k1⟩:=zR (by kernel_rfl) f1 gf1
   exact⟨⟨s0,l1⟩,⟨q1,c1,(h2 0 (by omega)).trans (eH e0),(h2 1 (by omega)).trans (eH e1),hn1⟩,m0,m1,k1⟩)
  refine⟨_,cap,l,hv,⟨⟨fun _=>⟨b,o,rfl,hb,fun i hi=>(hp i hi).1⟩⟩,hX,⟨fun g hg=>?_,fun g hg=>?_,fun g hg=>?_⟩,hl,by unfold maxLen at hm;omega⟩⟩
  ·obtain⟨i,hi,rfl⟩:=D0.1 hg;have:=(hp i hi).2.1;omega
  ·obtain⟨i,hi,rfl⟩:=D0.1 hg;exact (hp i hi).2.2.2
  ·obtain⟨i,hi,rfl⟩:=D0.1 hg;have:=(hp i hi).2.2.1;omega
 ·obtain rfl:len=0:=by omega
  exact⟨p,cap,[],hv,⟨⟨fun h=>absurd h (Ej 0)⟩,hX,⟨fun g hg=>by (cases hg),fun g hg=>by (cases hg),fun g hg=>by (cases hg)⟩,Do _,by unfold maxLen at hm;omega⟩⟩
end
open Go.RowKit Dc Dg
open Go.ChangeShapes Go.WideShapes Go.ChangeAt
set_option maxRecDepth 100000
theorem own:ownKnob Tryz.prog.godebug=none:=by kernel_rfl
def pt:List (String×DataW Unit):=[("math/bits.deBruijn32tab", Rows.laid_math_bits_deBruijn32tab),("math/bits.deBruijn64tab", Rows.laid_math_bits_deBruijn64tab),("internal/strconv.uint64pow10", Rows.laid_internal_strconv_uint64pow10),("unicode/utf8.acceptRanges", Rows.laid_unicode_utf8_acceptRanges),("strconv.ErrRange", Rows.laid_strconv_ErrRange),("strconv.ErrSyntax", Rows.laid_strconv_ErrSyntax),("unicode/utf8.first", Rows.laid_unicode_utf8_first)]
theorem rU {H:Type}{enc:TypeId×Value→H}{a:Assume}{C:Checked}{os:Os}{f:FuncId}{fn:Func}{s:ChangeSpec}{conds:List PathCond}{apart fresh handsOn again:Bool}{X:World→Array Value→Prop}
  (hX:∀ (w w':World) (args:Array Value),w.heap=w'.heap→X w args→X w' args)
  (own:ownKnob C.prog.godebug=none) (started:os.Started) (noInit:C.prog.inits.idxOf? f=none) (hfn:C.prog.funcs[f]?=some fn)
  (witness:∃ (w:World) (tape:Tape) (i:Input),w.os=os∧(w.forCall tape i).Shaped C.prog∧i.vars=[]∧Input.okWide C.prog (w.forCall tape i) .any w.heap.size f i ∧
   ((s.pre enc C.prog fn conds apart (w.forCall tape i).memory i.args∧X (w.forCall tape i).memory i.args)∧sizedMet enc C.prog fn (OpenSpec.ofChange s) apart (w.forCall tape i).memory i.args)∧a.holds C.prog (lone (Frame.enter C.prog f i.args .normal) [] (w.forCall tape i)))
  (contract:∀ (W:World) (base:Nat) (args:Array Value) (ds gs:List (DataW H)) (before:List MemPlace),
   (∀ (j:Nat) t v,fn.params[j]?=some t→args[j]?=some v→Value.okWide C.prog W .any base t v) →
   DataW.Whole enc C.prog fn.params.toList s.vars apart W args.toList ds gs before →
   (DataW.weightsEach C.prog (fn.params.toList++s.plain.varTypes C.prog) (ds++gs)).all (·≤reachBytes)=true→X W args→W.ShapedOpen C.prog →
   Calls C.prog f args W fun e W'=>∃ v,e=.returned v∧s.post enc C.prog fn apart fresh handsOn again W args v W') :
  ReturnsInHanded a C os f .any (fun w args=>(s.pre enc C.prog fn conds apart w args∧X w args)∧sizedMet enc C.prog fn (OpenSpec.ofChange s) apart w args) (s.post enc C.prog fn apart fresh handsOn again):=by
 refine returnsInHanded_of_calls own started noInit witness ?_
 intro w tape i _ hsh _ hok hpre hholds
 obtain⟨_,_,_,fn',hfn',_,_,_,_,hval⟩:=hok
 have e:fn'=fn:=Option.some.inj (hfn'.symm.trans hfn)
 subst e
 obtain⟨⟨⟨ds,gs,before,hw,hc⟩,hx⟩,hz⟩:=hpre
 have hw':=DataW.Whole.of_heap (w':=w.forCall tape i) (by rfl) hw
 refine (contract (w.forCall tape i) w.heap.size i.args ds gs before hval hw' (hz.weights hw) (hX _ _ _ (by rfl) hx) hsh).mono fun e W' ⟨v,he,hp⟩=>?_
 subst he
 exact ChangeSpec.post_blind hp
theorem rK {H:Type}{enc:TypeId×Value→H}{w:World}{base:Nat}{sp:Nat→Bool}{held:Bool}{fuel:Nat}{t:TypeId}{cs:List Value}{n:String}{d:DataW H}{p:List MemPlace}{ms:Array (String×TypeId)} (ht:Tryz.prog.underlying t=some (.interface ms)) (h:DataW.trod enc Tryz.prog w base sp held fuel t cs=some (.iface n d,p)):∃ u v,cs=[.iface u v]:=by
 cases fuel with
 | zero=>simp[DataW.trod] at h
 | succ fuel =>
  unfold DataW.trod at h
  rw[ht] at h
  split at h<;>first | (cases h;done) | skip
  all_goals first | exact⟨_,_,rfl⟩ | (simp_all;done)
theorem zv:(Rows.laid_internal_strconv_uint64pow10:DataW Unit)=Lib.tabData .u64 Lib.pow10Tab:=by kernel_rfl
theorem CF {W:World} (hL:laidMetH Tryz.prog pt W) (hsh:W.ShapedOpen Tryz.prog):Gx W:=by
 rw[Go.MakeChecks.laidMetH_plain _ _ _ (by kernel_rfl)] at hL
 obtain⟨ps,hv,_,_⟩:=hL
 unfold pt at hv
 obtain⟨g6,t6,c6,f6,p6,q6,hg6,ht6,hv6,hd6,hv,_⟩:=hv
 obtain⟨g7,t7,c7,f7,p7,q7,hg7,ht7,hv7,hd7,hv,_⟩:=hv
 obtain⟨g5,t5,c5,f5,p5,q5,hg5,ht5,hv5,hd5,hv,_⟩:=hv
 obtain⟨g4,t4,c4,f4,p4,q4,hg4,ht4,hv4,hd4,hv,_⟩:=hv
 obtain⟨g1,t1,c1,f1,p1,q1,hg1,ht1,hv1,hd1,hv,_⟩:=hv
 obtain⟨g0,t0,c0,f0,p0,q0,hg0,ht0,hv0,hd0,_,_⟩:=hv
 have n0:Tryz.prog.globalNamed "strconv.ErrSyntax" = some 0:=by kernel_rfl
 have n1:Tryz.prog.globalNamed "strconv.ErrRange" = some 1:=by kernel_rfl
 have n5:=mf
 have y0:(Tryz.prog.globals[0]?).map (·.type)=some 199:=by kernel_rfl
 have y1:(Tryz.prog.globals[1]?).map (·.type)=some 199:=by kernel_rfl
 obtain rfl:=Option.some.inj (n0.symm.trans hg0)
 obtain rfl:=Option.some.inj (n1.symm.trans hg1)
 obtain rfl:=Option.some.inj (n5.symm.trans hg5)
 obtain rfl:=Option.some.inj (y0.symm.trans ht0)
 obtain rfl:=Option.some.inj (y1.symm.trans ht1)
 have hif:=Tryz.underlying199
 have k0:=World.var?_cell hg0 hv0 0
 have k1:=World.var?_cell hg1 hv1 0
 obtain⟨u0,v0,e0⟩:=rK hif hd0
 obtain⟨u1,v1,e1⟩:=rK hif hd1
 rw[←Fq,e0] at k0
 rw[←Fq,e1] at k1
 rw[zv] at hd5
 obtain⟨T,hT,e,hu,he⟩:∃ T,(Tryz.prog.globals[5]?).map (·.type)=some T∧∃ e,Tryz.prog.underlying T=some (.array 20 e)∧(Tryz.prog.underlying e=some (.int .u64)∧Tryz.prog.cellsOf e=1∧Tryz.prog.cellsOf T=20) :=
  ⟨296,by kernel_rfl,243,by kernel_rfl,by kernel_rfl,by kernel_rfl,by kernel_rfl⟩
 obtain rfl:=Option.some.inj (hT.symm.trans ht5)
 have ep:=Lib.cells_of_tab hu he.1 he.2.1 he.2.2 hd5
 have hsz:8≤W.heap.size:=by
  have h7:(((begin Tryz.prog (fun _ _=>0) default).world.heap[7]?).bind Obj.row?).isSome=true:=by kernel_rfl
  obtain⟨⟨zero,t⟩,hz⟩:=Option.isSome_iff_exists.1 h7
  obtain⟨cs,hh,_⟩:=hsh.1 7 zero t (of_decide_eq_true (by kernel_rfl)) hz
  have:=aw hh
  omega
 refine⟨⟨?_,?_,hsz⟩,⟨u0,v0,k0⟩,⟨u1,v1,k1⟩⟩
 ·unfold qT Lib.TabIs
  rw[hv5,←ep]
 ·exact cell_of_shapedOpen_int (g:=2) (t:=3) (zero:=#[.int .i64 0]) hsh (of_decide_eq_true (by kernel_rfl)) (by kernel_rfl) rfl (by kernel_rfl) (by kernel_rfl) lN
def St.lay (x:St) (g:Nat) (k f:Int):St :=
 match g with
 | 0=>⟨k,x.a1,x.a2,f,x.f1,x.f2⟩
 | 1=>⟨x.a0,k,x.a2,x.f0,f,x.f2⟩
 | _=>⟨x.a0,x.a1,k,x.f0,x.f1,f⟩
theorem St.a_lay (x:St) {g j:Nat} (hg:g<3) (hj:j<3) (k f:Int):(x.lay g k f).a j=if j=g then k else x.a j:=by
 rcases lt3 hg with rfl | rfl | rfl<;>rcases lt3 hj with rfl | rfl | rfl<;>rfl
theorem St.f_lay (x:St) {g j:Nat} (hg:g<3) (hj:j<3) (k f:Int):(x.lay g k f).f j=if j=g then f else x.f j:=by
 rcases lt3 hg with rfl | rfl | rfl<;>rcases lt3 hj with rfl | rfl | rfl<;>rfl
theorem St.ext {x y:St} (ha:∀ j,j<3→x.a j=y.a j) (hf:∀ j,j<3→x.f j=y.f j):x=y:=by
 obtain⟨x0,x1,x2,x3,x4,x5⟩:=x
 obtain⟨y0,y1,y2,y3,y4,y5⟩:=y
 have a0:x0=y0:=ha 0 (by decide)
 have a1:x1=y1:=ha 1 (by decide)
 have a2:x2=y2:=ha 2 (by decide)
 have f0:x3=y3:=hf 0 (by decide)
 have f1:x4=y4:=hf 1 (by decide)
 have f2:x5=y5:=hf 2 (by decide)
 subst a0;subst a1;subst a2;subst f0;subst f1;subst f2
 rfl
theorem Cq (g:Nat):St.zero.f g=0:=by unfold St.f St.zero;split<;>rfl
def aZ (al fl:List Int):Nat→St
 | 0=>St.zero
 | i+1=>(aZ al fl i).lay i (al[i]?.getD 0) (fl[i]?.getD 0)
theorem ki (al fl:List Int) {j:Nat} (hj:j<3):∀ i,i≤3→(aZ al fl i).a j=if j<i then al[j]?.getD 0 else 0
 | 0,_=>by rw[if_neg (by omega)];exact Cp j
 | i+1,hi=>by
  rw[aZ,St.a_lay _ (by omega) hj,ki al fl hj i (by omega)]
  by_cases h:j=i
  ·subst h;rw[if_pos rfl,if_pos (by omega)]
  ·rw[if_neg h]
   by_cases h2:j<i
   ·rw[if_pos h2,if_pos (by omega)]
   ·rw[if_neg h2,if_neg (by omega)]
theorem nh (al fl:List Int) {j:Nat} (hj:j<3):∀ i,i≤3→(aZ al fl i).f j=if j<i then fl[j]?.getD 0 else 0
 | 0,_=>by rw[if_neg (by omega)];exact Cq j
 | i+1,hi=>by
  rw[aZ,St.f_lay _ (by omega) hj,nh al fl hj i (by omega)]
  by_cases h:j=i
  ·subst h;rw[if_pos rfl,if_pos (by omega)]
  ·rw[if_neg h]
   by_cases h2:j<i
   ·rw[if_pos h2,if_pos (by omega)]
   ·rw[if_neg h2,if_neg (by omega)]
theorem kD {n:Nat} (hn:n≤3) (x:St):(atL n x).length=n:=by unfold atL;simp;omega
theorem jr {n:Nat} (hn:n≤3) (x:St):(aG n x).length=n:=by unfold aG;simp;omega
theorem lj {n:Nat} (hn:n≤3) (x:St) {j:Nat} (hj:j<n):(atL n x)[j]?=some (x.a j):=by
 unfold atL
 rw[List.getElem?_take_of_lt hj]
 rcases lt3 (show j<3 by omega) with rfl | rfl | rfl<;>rfl
theorem kJ {n:Nat} (hn:n≤3) (x:St) {j:Nat} (hj:j<n):(aG n x)[j]?=some (x.f j):=by
 unfold aG
 rw[List.getElem?_take_of_lt hj]
 rcases lt3 (show j<3 by omega) with rfl | rfl | rfl<;>rfl
structure cU (gs:List Gd) (al fl:List Int) (y:St):Prop where
 at_:(ah gs).At y
 held:kx (ah gs) y
 a:al=atL gs.length y
 f:fl=aG gs.length y
def rL (gs:List Gd) (al fl:List Int) (i:Nat):Prop:=∀ g,g<i→0≤al[g]?.getD 0∧al[g]?.getD 0<((ah gs).rungs g:Int)∧0≤fl[g]?.getD 0∧fl[g]?.getD 0<(ah gs).tries g (al[g]?.getD 0).toNat
theorem qo {gs:List Gd}{al fl:List Int} (hn:gs.length≤3) (h:rL gs al fl gs.length):(ah gs).At (aZ al fl gs.length):=by
 have hM:(ah gs).n=gs.length:=rfl
 refine⟨fun g hg=>?_,fun g hg=>?_,fun g hg h3=>?_,fun g hg h3=>?_⟩
 ·rw[ki al fl (by omega) _ hn,if_pos (by omega)]
  obtain⟨h1,h2,_⟩:=h g (by omega)
  exact⟨h1,h2⟩
 ·rw[ki al fl (by omega) _ hn,nh al fl (by omega) _ hn,if_pos (by omega),if_pos (by omega)]
  obtain⟨_,_,h3,h4⟩:=h g (by omega)
  exact⟨h3,h4⟩
 ·rw[ki al fl h3 _ hn,if_neg (by omega)]
 ·rw[nh al fl h3 _ hn,if_neg (by omega)]
theorem kn {l m:List Int} (h:l.length=m.length) (hg:∀ j,j<l.length→l[j]?=m[j]?):l=m:=by
 refine List.ext_getElem? (fun j=>?_)
 by_cases hj:j<l.length
 ·exact hg j hj
 ·rw[EZ (by omega),EZ (by omega)]
theorem uL {gs:List Gd}{al fl:List Int} (hn:gs.length≤3) (hA:al.length=gs.length) (hF:fl.length=gs.length) (h:rL gs al fl gs.length) (hh:kx (ah gs) (aZ al fl gs.length)):cU gs al fl (aZ al fl gs.length):=by
 refine⟨qo hn h,hh,kn (by rw[kD hn,hA]) (fun j hj=>?_),kn (by rw[jr hn,hF]) (fun j hj=>?_)⟩
 ·rw[lj hn _ (by omega),ki al fl (by omega) _ hn,if_pos (by omega),C7 hj]
  rfl
 ·rw[kJ hn _ (by omega),nh al fl (by omega) _ hn,if_pos (by omega),C7 hj]
  rfl
theorem cU.up {gs:List Gd}{al fl:List Int}{y:St} (hn:gs.length≤3) (h:cU gs al fl y):rL gs al fl gs.length:=by
 intro g hg
 rw[h.a,h.f,lj hn y hg,kJ hn y hg]
 have h1:=h.at_.a g hg
 have h2:=h.at_.f g hg
 exact⟨h1.1,h1.2,h2.1,h2.2⟩
theorem cU.fill {gs:List Gd}{al fl:List Int}{y:St} (hn:gs.length≤3) (h:cU gs al fl y):y=aZ al fl gs.length:=by
 have hM:(ah gs).n=gs.length:=rfl
 refine St.ext (fun j hj=>?_) (fun j hj=>?_)
 ·rw[ki al fl hj _ hn]
  by_cases hg:j<gs.length
  ·rw[if_pos hg,h.a,lj hn y hg];rfl
  ·rw[if_neg hg,h.at_.a0 j (by omega) hj]
 ·rw[nh al fl hj _ hn]
  by_cases hg:j<gs.length
  ·rw[if_pos hg,h.f,kJ hn y hg];rfl
  ·rw[if_neg hg,h.at_.f0 j (by omega) hj]
theorem cU.lens {gs:List Gd}{al fl:List Int}{y:St} (hn:gs.length≤3) (h:cU gs al fl y):al.length=gs.length∧fl.length=gs.length:=⟨by rw[h.a,kD hn],by rw[h.f,jr hn]⟩
theorem cU.uniq {gs:List Gd}{al fl:List Int}{y z:St} (hn:gs.length≤3) (h:cU gs al fl y) (h2:cU gs al fl z):y=z:=(h.fill hn).trans (h2.fill hn).symm
structure kz (w:World) (v:Value) (al fl:List Int):Prop where
 at_:∃ u1 u2,v=.agg #[u1,u2]∧aN w u1 al∧aN w u2 fl
theorem kz.below {w w':World}{v:Value}{al fl:List Int} (h:kz w v al fl) (hb:Below w.heap.size w w'):kz w' v al fl:=by
 obtain⟨u1,u2,e,h1,h2⟩:=h.at_
 exact⟨u1,u2,e,h1.below hb,h2.below hb⟩
def rR (w:World) (b g:Nat) (k f:Int):World:=(w.setCell ⟨b,g,none⟩ (.int .i64 k)).setCell ⟨b,3+g,none⟩ (.int .i64 f)
theorem StP.lay1 {w:World}{b g:Nat}{x:St} (h:StP w b x) (hg:g<3) (k:Int):StP (w.setCell ⟨b,g,none⟩ (.int .i64 k)) b (x.lay g k (x.f g)):=by
 rcases lt3 hg with rfl | rfl | rfl
 ·unfold StP;rw[heap_setCell_same w b 0 _ _ (.int .i64 k) h];rfl
 ·unfold StP;rw[heap_setCell_same w b 1 _ _ (.int .i64 k) h];rfl
 ·unfold StP;rw[heap_setCell_same w b 2 _ _ (.int .i64 k) h];rfl
theorem StP.lay {w:World}{b g:Nat}{x:St} (h:StP w b x) (hg:g<3) (k f:Int):StP (rR w b g k f) b (x.lay g k f):=by
 have h1:=h.lay1 hg k
 unfold rR
 rcases lt3 hg with rfl | rfl | rfl
 ·unfold StP;rw[heap_setCell_same _ b (3+0) _ _ (.int .i64 f) h1];rfl
 ·unfold StP;rw[heap_setCell_same _ b (3+1) _ _ (.int .i64 f) h1];rfl
 ·unfold StP;rw[heap_setCell_same _ b (3+2) _ _ (.int .i64 f) h1];rfl
theorem tM {w:World}{n b g:Nat}{k f:Int} (hb:n≤b):Below n w (rR w b g k f):=(((Below.refl n w).setCell (p:=⟨b,g,none⟩) hb _).setCell (p:=⟨b,3+g,none⟩) hb _)
theorem nB {w:World}{b g:Nat}{k f:Int}{i:Nat} (h:i≠b):(rR w b g k f).heap[i]?=w.heap[i]?:=by
 unfold rR
 rw[Below.heap_setCell _ _ _ _ h,Below.heap_setCell _ _ _ _ h]
structure mN (w0 w:World) (u1 u2:Value) (x:St):Prop where
 s:w.heap[w0.heap.size]?=some (.cells #[u1,u2] 41 (0,0))
 r:StP w (w0.heap.size+1) St.zero
 o:StP w (w0.heap.size+1+1) x
 bl:Below w0.heap.size w0 w
theorem mN.below {w0 w w':World}{u1 u2:Value}{x:St} (h:mN w0 w u1 u2 x) (hb:Below w.heap.size w w'):mN w0 w' u1 u2 x :=
 ⟨(hb.block _ (aw h.s)).trans h.s,h.r.below hb,h.o.below hb,h.bl.trans (hb.mono h.bl.size)⟩
theorem mN.lay {w0 w:World}{u1 u2:Value}{x:St} (h:mN w0 w u1 u2 x) {g:Nat} (hg:g<3) (k f:Int):mN w0 (rR w (w0.heap.size+1+1) g k f) u1 u2 (x.lay g k f) :=
 ⟨by rw[nB (by omega)];exact h.s,by unfold StP;rw[nB (by omega)];exact h.r,h.o.lay hg k f,h.bl.trans (tM (by omega))⟩
theorem mN.new (w:World) (u1 u2:Value):mN w (((w.alloc (.cells #[u1,u2] 41)).alloc (.cells #[.int .i64 0,.int .i64 0,.int .i64 0,.int .i64 0,.int .i64 0,.int .i64 0] 87)).alloc (.cells #[.int .i64 0,.int .i64 0,.int .i64 0,.int .i64 0,.int .i64 0,.int .i64 0] 87)) u1 u2 St.zero:=by
 have hb1:Below w.heap.size w (w.alloc (.cells #[u1,u2] 41)):=(Below.refl _ _).alloc (C6 _) _
 have a0:=heap_alloc_new w (.cells #[u1,u2] 41)
 have hz1:(w.alloc (.cells #[u1,u2] 41)).heap.size=w.heap.size+1:=by simp
 generalize w.alloc (.cells #[u1,u2] 41)=w1 at *
 have hb2:Below w1.heap.size w1 (w1.alloc (.cells #[.int .i64 0,.int .i64 0,.int .i64 0,.int .i64 0,.int .i64 0,.int .i64 0] 87)):=(Below.refl _ _).alloc (C6 _) _
 have b0:=StP.new w1 St.zero
 have hz2:(w1.alloc (.cells #[.int .i64 0,.int .i64 0,.int .i64 0,.int .i64 0,.int .i64 0,.int .i64 0] 87)).heap.size=w1.heap.size+1:=by simp
 change StP (w1.alloc (.cells #[.int .i64 0,.int .i64 0,.int .i64 0,.int .i64 0,.int .i64 0,.int .i64 0] 87)) w1.heap.size St.zero at b0
 generalize w1.alloc (.cells #[.int .i64 0,.int .i64 0,.int .i64 0,.int .i64 0,.int .i64 0,.int .i64 0] 87)=w2 at *
 have hb3:Below w2.heap.size w2 (w2.alloc (.cells #[.int .i64 0,.int .i64 0,.int .i64 0,.int .i64 0,.int .i64 0,.int .i64 0] 87)):=(Below.refl _ _).alloc (C6 _) _
 have r0:=StP.new w2 St.zero
 change StP (w2.alloc (.cells #[.int .i64 0,.int .i64 0,.int .i64 0,.int .i64 0,.int .i64 0,.int .i64 0] 87)) w2.heap.size St.zero at r0
 rw[hz1] at b0
 rw[hz2,hz1] at r0
 have a1:=(hb2.block _ (aw a0)).trans a0
 refine⟨(hb3.block _ (aw a1)).trans a1,b0.below hb3,r0,hb1.trans ((hb2.trans (hb3.mono hb2.size)).mono hb1.size)⟩
def SoQ (gs:List Gd) (al fl:List Int) (w:World) (e:Ending) (w':World):Prop :=
 ∃ (y:St) (ok:Bool),e=.returned (.tuple #[.agg #[.int .i64 y.a0,.int .i64 y.a1,.int .i64 y.a2,.int .i64 y.f0,.int .i64 y.f1,.int .i64 y.f2],.bool ok])∧(ok=true→cU gs al fl y)∧(ok=false→∀ z,¬ cU gs al fl z)∧Below w.heap.size w w'
theorem SoQ.no {gs:List Gd}{al fl:List Int}{w w':World} (y:St) (h:∀ z,¬ cU gs al fl z) (hb:Below w.heap.size w w'):SoQ gs al fl w (.returned (.tuple #[.agg #[.int .i64 y.a0,.int .i64 y.a1,.int .i64 y.a2,.int .i64 y.f0,.int .i64 y.f1,.int .i64 y.f2],.bool false])) w' :=
 ⟨y,false,rfl,(fun e=>by cases e),fun _=>h,hb⟩
theorem SoQ.yes {gs:List Gd}{al fl:List Int}{w w':World} (y:St) (h:cU gs al fl y) (hb:Below w.heap.size w w'):SoQ gs al fl w (.returned (.tuple #[.agg #[.int .i64 y.a0,.int .i64 y.a1,.int .i64 y.a2,.int .i64 y.f0,.int .i64 y.f1,.int .i64 y.f2],.bool true])) w' :=
 ⟨y,true,rfl,fun _=>h,(fun e=>by cases e),hb⟩
open Go.ChangeShapes Go.WideShapes
set_option maxRecDepth 100000
section
variable {H : Type} {enc : TypeId × Value → H} {w : World} {sp : Nat → Bool} {held : Bool}
theorem A2 {t:TypeId}{fuel:Nat}{cs:List Value}{x:DataW H×List MemPlace} (ht:Tryz.prog.underlying t=some (.slice 3)) (h:DataW.trod enc Tryz.prog w 0 sp held fuel t cs=some x) (hf:iB t x.1) :
  ∃ (p:Option Addr) (cap:Nat) (l:List Int),cs=[.slice p l.length cap]∧l.length≤140737488351232∧aN w (.slice p l.length cap) l:=by
 obtain⟨p,len,cap,rfl,hl,hm,hr,hx⟩:=gM ht (by kernel_rfl:Tryz.prog.cellsOf 3=1) (by decide) (of_decide_eq_true (by kernel_rfl)) h hf
 by_cases h0:0<len
 ·obtain⟨b,o,rfl,hb,hx⟩:=hx h0
  obtain⟨l,rfl,hp⟩:=h_ len (fun i (s:Int)=>w.cell? ⟨b,o+i,none⟩=some (.int .i64 s)) (fun i hi=>by
   obtain⟨ecs,n,y,h1,h2,h3,h4⟩:=hx i hi
   obtain⟨s,rfl⟩:=km lN h3
   exact⟨s,by have:=h2 0 (by omega);rw[Er,DJ] at this;exact this⟩)
  exact⟨_,cap,l,rfl,hr,⟨_,cap,rfl,fun _=>⟨b,o,rfl,hb,hp⟩⟩⟩
 ·obtain rfl:len=0:=by omega
  exact⟨p,cap,[],rfl,hr,⟨p,cap,rfl,fun h=>absurd h (Ej 0)⟩⟩
end
open Go.RowKit Dc Dg
open Go.ChangeShapes Go.WideShapes
set_option maxRecDepth 100000
section
variable {H : Type} {enc : TypeId × Value → H} {w : World} {sp : Nat → Bool} {held : Bool}
theorem uj {t e:TypeId}{fuel:Nat}{cs:List Value}{x:DataW H×List MemPlace} (ht:Tryz.prog.underlying t=some (.slice e)) (h:DataW.trod enc Tryz.prog w 0 sp held fuel t cs=some x) (hf:iB t x.1) :
  ∃ (p:Option Addr) (len cap:Nat),cs=[.slice p len cap]∧(p=none→cap=0)∧len*Tryz.prog.bytesOf e≤140737488351232:=by
 rcases Go.Deep.open_slice ht h with ⟨rfl,_⟩ | ⟨a,len,cap,m,n,D,Pl,rfl,_,hl,hm,hmm,hxe,hx⟩
 ·exact⟨none,0,0,rfl,fun _=>rfl,by simp⟩
 ·have hlm:len≤m:=by rw[hmm];split<;>omega
  have h1:=hf ((((List.range len).map D).length+((List.range (m-len)).map fun j=>D (len+j)).length)*Tryz.prog.bytesOf e) (by
    rw[hxe]
    show _∈DataW.weights Tryz.prog t (.slice _ _)
    unfold DataW.weights
    rw[ht]
    exact DC ..)
  simp only[Em,List.length_range] at h1
  exact⟨some a,len,cap,rfl,fun e=>(by cases e),Df (Di _ (by omega)) h1⟩
structure Bv (w:World) (p1:Option Addr) (c1:Nat) (p2:Option Addr) (c2:Nat) (al fl:List Int):Prop where
 a:aN w (.slice p1 al.length c1) al
 f:aN w (.slice p2 fl.length c2) fl
 na:p1=none→c1=0
 nf:p2=none→c2=0
 la:al.length*8≤140737488351232
 lf:fl.length*8≤140737488351232
theorem pj {t:TypeId}{fuel:Nat}{cs:List Value}{x:DataW H×List MemPlace} (ht:Tryz.prog.underlying t=some (.slice 3)) (h:DataW.trod enc Tryz.prog w 0 sp held fuel t cs=some x) (hf:iB t x.1) :
  ∃ (p:Option Addr) (cap:Nat) (l:List Int),cs=[.slice p l.length cap]∧aN w (.slice p l.length cap) l∧(p=none→cap=0)∧l.length*8≤140737488351232:=by
 obtain⟨p,cap,l,e,_,hq⟩:=A2 ht h hf
 obtain⟨p2,len2,cap2,e2,h1,h2⟩:=uj ht h hf
 have hb8:Tryz.prog.bytesOf 3=8:=by kernel_rfl
 rw[hb8] at h2
 rw[e] at e2
 simp only[List.cons.injEq,Value.slice.injEq,and_true] at e2
 obtain⟨rfl,rfl,rfl⟩:=e2
 exact⟨p,cap,l,e,hq,h1,h2⟩
theorem xq {v:Value}{d:DataW H}{pl:List MemPlace} (h:DataW.Trod enc Tryz.prog w 0 sp held 41 v d pl) (hf:iB 41 d) (hv:∃ cs,v=.agg cs):∃ p1 c1 p2 c2 al fl,v=.agg #[.slice p1 (List.length al) c1,.slice p2 (List.length fl) c2]∧Bv w p1 c1 p2 c2 al fl:=by
 obtain⟨fuel,h⟩:=h
 obtain⟨n0,y0,f0,gf0⟩:=bQ Tryz.underlying41 h hf (i:=0) rfl
 obtain⟨n1,y1,f1,gf1⟩:=bQ Tryz.underlying41 h hf (i:=1) rfl
 obtain⟨xs,_,_,_,hcl,_,_⟩:=DataW.trod_struct Tryz.underlying41 h
 have hc1:Tryz.prog.cellsOf 41=2:=by kernel_rfl
 obtain⟨p1,c1,al,e1,hq1,ha1,hb1⟩:=pj (by kernel_rfl) f0 gf0
 obtain⟨p2,c2,fl,e2,hq2,ha2,hb2⟩:=pj (by kernel_rfl) f1 gf1
 have g1:=eH e1
 have g2:=eH e2
 obtain⟨cs,rfl⟩:=hv
 rw[hc1] at hcl
 have hcs:(Value.agg cs).cells.toList=[.slice p1 al.length c1,.slice p2 fl.length c2]:=by
  revert hcl g1 g2
  generalize (Value.agg cs).cells.toList=l
  intro hcl g1 g2
  match l,hcl,g1,g2 with
  | [a,b],_,g1,g2 =>
   have ha:a=.slice p1 al.length c1:=by
    have h1:[a,b][0]?=some (Value.slice p1 al.length c1):=g1
    simpa using h1
   have hb:b=.slice p2 fl.length c2:=by
    have h1:[a,b][1]?=some (Value.slice p2 fl.length c2):=g2
    simpa using h1
   rw[ha,hb]
 refine⟨p1,c1,p2,c2,al,fl,?_,hq1,hq2,ha1,ha2,hb1,hb2⟩
 have:cs.toList=[.slice p1 al.length c1,.slice p2 fl.length c2]:=hcs
 rw[show cs=#[.slice p1 al.length c1,.slice p2 fl.length c2] from FL.1 this]
theorem yx {v:Value}{d:DataW H}{pl:List MemPlace} (h:DataW.Trod enc Tryz.prog w 0 sp held 53 v d pl) (hf:iB 53 d) (hv:∃ cs,v=.agg cs):∃ a b:Int,v=.agg #[.int .i64 a,.int .i64 b]:=by
 obtain⟨fuel,h⟩:=h
 obtain⟨n0,y0,f0,gf0⟩:=bQ Tryz.underlying53 h hf (i:=0) rfl
 obtain⟨n1,y1,f1,gf1⟩:=bQ Tryz.underlying53 h hf (i:=1) rfl
 obtain⟨xs,_,_,_,hcl,_,_⟩:=DataW.trod_struct Tryz.underlying53 h
 have hc1:Tryz.prog.cellsOf 53=2:=by kernel_rfl
 obtain⟨a,e1⟩:=km lN f0
 obtain⟨b,e2⟩:=km lN f1
 have g1:=eH e1
 have g2:=eH e2
 obtain⟨cs,rfl⟩:=hv
 rw[hc1] at hcl
 have hcs:(Value.agg cs).cells.toList=[.int .i64 a,.int .i64 b]:=by
  revert hcl g1 g2
  generalize (Value.agg cs).cells.toList=l
  intro hcl g1 g2
  match l,hcl,g1,g2 with
  | [x,y],_,g1,g2 =>
   have ha:x=.int .i64 a:=by
    have h1:[x,y][0]?=some (Value.int .i64 a):=g1
    simpa using h1
   have hb:y=.int .i64 b:=by
    have h1:[x,y][1]?=some (Value.int .i64 b):=g2
    simpa using h1
   rw[ha,hb]
 have:cs.toList=[.int .i64 a,.int .i64 b]:=hcs
 exact⟨a,b,by rw[show cs=#[.int .i64 a,.int .i64 b] from FL.1 this]⟩
end
end Go.Proofs.YtnkgbocdpngldaaGreatDoor
