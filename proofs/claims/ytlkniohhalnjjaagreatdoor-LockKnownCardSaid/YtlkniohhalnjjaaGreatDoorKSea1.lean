/- Lemmas of this claim. -/
import Derived.OwnWalk
import Derived.OwnWalkIn
import Derived.Test.YtlkniohhalnjjaaGreatDoorKQue
import Derived.Test.YtlkniohhalnjjaaGreatDoorKEvs
set_option linter.all false
set_option maxRecDepth 100000
set_option maxHeartbeats 8000000
namespace Go.Proofs.YtlkniohhalnjjaaGreatDoor
open Go.RowKit Dc Dg
def eu (D:Nat):Deferred:={ target:=.collected D,args:=#[] }
def di (B:Nat) (w:World) (ds:List Deferred):Prop:=∃ Ds:List Nat,Ds.Nodup∧ds=Ds.map eu∧∀ D∈Ds,B≤D∧w.heap[D]?=some (.deferred (some []))
theorem di.nil (B:Nat) (w:World):di B w []:=⟨[],wK,rfl,fun D h=>by cases h⟩
theorem m_ {D E:Nat} (h:eu D=eu E):D=E:=by
 unfold eu at h
 simpa using h
theorem di.lt {B:Nat}{w:World}{ds:List Deferred} (h:di B w ds) {E:Nat} (hE:eu E∈ds):E<w.heap.size:=by
 obtain⟨Ds,h1,rfl,h2⟩:=h
 obtain⟨D,hD,e⟩:=ve.1 hE
 obtain rfl:=m_ e
 exact (uw.1 (h2 _ hD).2).1
theorem di.cons {B:Nat}{w:World}{ds:List Deferred} (h:di B w ds) {D:Nat} (hn:∀ E,eu E∈ds→E<D) (hB:B≤D) (hd:w.heap[D]?=some (.deferred (some []))):di B w (eu D :: ds):=by
 obtain⟨Ds,h1,rfl,h2⟩:=h
 refine⟨D :: Ds,vP.2 ⟨fun hm=>?_,h1⟩,rfl,?_⟩
 ·have:=hn D (ve.2 ⟨D,hm,rfl⟩)
  omega
 ·intro E hE
  rcases uy.1 hE with rfl | hE
  ·exact⟨hB,hd⟩
  ·exact h2 E hE
theorem di.keep {B:Nat}{w w':World}{ds:List Deferred} (h:di B w ds) (hk:∀ D,B≤D→w.heap[D]?=some (.deferred (some []))→w'.heap[D]?=some (.deferred (some []))):di B w' ds:=by
 obtain⟨Ds,h1,h2,h3⟩:=h
 exact⟨Ds,h1,h2,fun D hD=>⟨(h3 D hD).1,hk D (h3 D hD).1 (h3 D hD).2⟩⟩
structure gH (B:Nat) (w w':World):Prop where
 below:Below B w w'
 size:w'.heap.size=w.heap.size
 same:∀ (i:Nat) (o:Obj),w.heap[i]?=some o→(∀ x,o≠Obj.deferred x)→w'.heap[i]?=some o
theorem gH.refl (B:Nat) (w:World):gH B w w:=⟨Below.refl _ _,rfl,fun _ _ h _=>h⟩
theorem gH.trans {B:Nat}{a b c:World} (h:gH B a b) (k:gH B b c):gH B a c:=⟨h.below.trans k.below,k.size.trans h.size,fun i o hi ho=>k.same i o (h.same i o hi ho) ho⟩
theorem gH.map {B:Nat}{w w':World} (h:gH B w w') {mt N s:Nat}{R:List (St×av)} (hT:fM w mt N s R):fM w' mt N s R:=by
 obtain⟨D,⟨es,clock,hb,r⟩,h2⟩:=hT
 exact⟨D,⟨es,clock,h.same _ _ hb (by intro x hx;cases hx),r⟩,h2⟩
theorem gH.ev {B n:Nat}{w w':World} (h:gH B w w') {v:Value}{l:List Ev} (hE:EvR n w v l):EvR n w' v l :=
 bc hE (fun k hk=>by
  obtain⟨_,_,cur,hc⟩:=ap hE hk
  rw[h.same _ _ hc (by intro x hx;cases hx)];exact hc.symm)
theorem fV {F:Fence}{n:Nat}{P:Program}{fn:Func}{tmps:Array Value}{R:Ending→World→Prop}{B:Nat}:∀ (Ds:List Nat) (w:World),Ds.Nodup→(∀ D∈Ds,B≤D∧w.heap[D]?=some (.deferred (some []))) →
  (∀ w',gH B w w'→LeavesIn F n P fn tmps R [] .returning w')→LeavesInM F n P fn tmps R (Ds.map eu) .returning w
 | [],w,_,_,h=>h w (gH.refl _ _)
 | D :: Ds,w,hd,hm,h=>by
  obtain⟨hB,hD⟩:=hm D (uU ..)
  have hlt:D<w.heap.size:=(uw.1 hD).1
  have hs:gH B w (w.putObj D (.deferred none)):=by
   refine⟨⟨rfl,rfl,rfl,by simp,fun k hk=>World.putObj_heap_other (by omega)⟩,by simp,fun i o hi ho=>?_⟩
   rw[World.putObj_heap_other (fun e=>?_)]
   ·exact hi
   ·subst e
    rw[hD] at hi
    cases hi
    exact ho _ rfl
  refine⟨by simp,Or.inl ⟨D,_,rfl,run_takeDeferred hD,?_⟩⟩
  refine fV Ds _ (vP.1 hd).2 (fun E hE=>?_) (fun w' hw'=>h w' (hs.trans hw'))
  obtain⟨h1,h2⟩:=hm E (vc _ hE)
  refine⟨h1,?_⟩
  rw[World.putObj_heap_other (fun e=>(vP.1 hd).1 (by rw[←e];exact hE))]
  exact h2
def uh (res:Option St×List (St×av)):List Ev:=match res.1 with | some y=>iS res.2 y | none=>[]
def fs (w:World) (res:Option St×List (St×av)) (e:Ending) (w':World):Prop :=
 Below w.heap.size w w'∧∃ (v:Value) (mt N s:Nat),e=.returned (.tuple #[v,.map (some mt),.bool res.1.isSome])∧fM w' mt N s res.2∧EvR w.heap.size w' v (uh res)∧w.heap.size≤mt
theorem fs.shut {w W W':World}{res:Option St×List (St×av)}{e:Ending} (h:fs w res e W) (hs:gH w.heap.size W W'):fs w res e W':=by
 obtain⟨h1,v,mt,N,s,h2,h3,h4,h5⟩:=h
 exact⟨h1.trans hs.below,v,mt,N,s,h2,hs.map h3,hs.ev h4,h5⟩
theorem ag {w:World}{b:Nat}{o:Obj} (h:w.heap[b]?=some o):b<w.heap.size:=(uw.1 h).1
structure gg (w0 wr:World) (m:Nat) (fa:Value) (b4 b6 b11 mt:Nat) (R:List (St×av)):Prop where
 below:Below w0.heap.size w0 wr
 h4:wr.heap[b4]?=some (.cells #[.pointer (some ⟨m,0,none⟩)] 64 (0,0))
 h6:wr.heap[b6]?=some (.cells #[fa] 79 (0,0))
 h11:wr.heap[b11]?=some (.cells #[.map (some mt)] 81 (0,0))
 tab:∃ N s,fM wr mt N s R∧N≤R.length
 lt:w0.heap.size≤mt
theorem gg.c4 {w0 wr:World}{m:Nat}{fa:Value}{b4 b6 b11 mt:Nat}{R:List (St×av)} (h:gg w0 wr m fa b4 b6 b11 mt R):wr.cell? ⟨b4,0,none⟩=some (.pointer (some ⟨m,0,none⟩)):=aa h.h4 0
theorem gg.c6 {w0 wr:World}{m:Nat}{fa:Value}{b4 b6 b11 mt:Nat}{R:List (St×av)} (h:gg w0 wr m fa b4 b6 b11 mt R):wr.cell? ⟨b6,0,none⟩=some fa:=aa h.h6 0
theorem gg.c11 {w0 wr:World}{m:Nat}{fa:Value}{b4 b6 b11 mt:Nat}{R:List (St×av)} (h:gg w0 wr m fa b4 b6 b11 mt R):wr.cell? ⟨b11,0,none⟩=some (.map (some mt)):=aa h.h11 0
theorem gg.same {w0 wr wx:World}{m:Nat}{fa:Value}{b4 b6 b11 mt:Nat}{R:List (St×av)} (h:gg w0 wr m fa b4 b6 b11 mt R) (hb:Below wr.heap.size wr wx):gg w0 wx m fa b4 b6 b11 mt R:=by
 obtain⟨N,s,hT,hN⟩:=h.tab
 exact⟨h.below.trans (hb.mono h.below.size),(hb.block _ (ag h.h4)).trans h.h4,(hb.block _ (ag h.h6)).trans h.h6,(hb.block _ (ag h.h11)).trans h.h11,⟨N,s,hT.same (hb.block _ hT.lt),hN⟩,h.lt⟩
theorem fw {w:World}{p:Addr}{v:Value} (h:w.cell? p=some v) (o:Obj):(w.alloc o).cell? p=some v :=
 (((Below.refl w.heap.size w).alloc (uo _) o).cell (block_lt_of_cell h)).trans h
structure SeaL (M:ar) (al:Ev→Bool) (fd:St→Bool) (x:St) (w0 wr:World) (m:Nat) (fa:Value) (b4 b6 b11 mt:Nat) (ds:List Deferred) (b13:Nat) (qv:Value) (R:List (St×av)):Prop where
 K:gg w0 wr m fa b4 b6 b11 mt R
 c13:wr.heap[b13]?=some (.cells #[qv] 65 (0,0))
 h13:w0.heap.size≤b13
 Q:bG w0.heap.size wr qv ((au R).drop ds.length)
 I:Inv M al fd x R ds.length
 D:di w0.heap.size wr ds
 B:∃ fuel,32769-ds.length≤fuel∧bfs M al fd fuel R ((au R).drop ds.length)=a6 M x al fd
theorem ly (n:Nat) (vs:Array Value) (h:vs.size=n):vs=((List.range n).map (fun i=>vs.getD i undef)).toArray:=by
 apply Array.ext
 ·simp[h]
 ·intro i h1 h2
  simp at h2
  simp[Array.getD,h1]
structure tc (a:Act) (w:World) (m:Nat) (x:St) (ga gf:Nat) (la lf:Array Value) (b11 b13:Nat):Prop where
 size:a.tmps.size=72
 t0:a.tmps.getD 0 undef=.pointer (some ⟨m,0,none⟩)
 t1:a.tmps.getD 1 undef=.agg #[.int .i64 x.a0,.int .i64 x.a1,.int .i64 x.a2,.int .i64 x.f0,.int .i64 x.f1,.int .i64 x.f2]
 t2:a.tmps.getD 2 undef=.func (.func ga) #[] la
 t3:a.tmps.getD 3 undef=.func (.func gf) #[] lf
 t4:a.tmps.getD 4 undef=.pointer (some ⟨w.heap.size,0,none⟩)
 t5:a.tmps.getD 5 undef=.pointer (some ⟨w.heap.size+1,0,none⟩)
 t6:a.tmps.getD 6 undef=.pointer (some ⟨w.heap.size+1+1,0,none⟩)
 t8:a.tmps.getD 8 undef=.slice none 0 0
 t9:a.tmps.getD 9 undef=.map none
 t10:a.tmps.getD 10 undef=.bool false
 t11:a.tmps.getD 11 undef=.pointer (some ⟨b11,0,none⟩)
 t12:a.tmps.getD 12 undef=.func (.func 44) #[] #[.pointer (some ⟨b11,0,none⟩)]
 t13:a.tmps.getD 13 undef=.pointer (some ⟨b13,0,none⟩)
theorem tc.open {a:Act}{w:World}{m:Nat}{x:St}{ga gf:Nat}{la lf:Array Value}{b11 b13:Nat} (h:tc a w m x ga gf la lf b11 b13):∃ us:Nat→Value,a={ tmps:=#[.pointer (some ⟨m,0,none⟩),.agg #[.int .i64 x.a0,.int .i64 x.a1,.int .i64 x.a2,.int .i64 x.f0,.int .i64 x.f1,.int .i64 x.f2],.func (.func ga) #[] la,.func (.func gf) #[] lf,.pointer (some ⟨w.heap.size,0,none⟩),.pointer (some ⟨w.heap.size+1,0,none⟩),.pointer (some ⟨w.heap.size+1+1,0,none⟩),us 7,.slice none 0 0,.map none,.bool false,.pointer (some ⟨b11,0,none⟩),.func (.func 44) #[] #[.pointer (some ⟨b11,0,none⟩)],.pointer (some ⟨b13,0,none⟩),us 14,us 15,us 16,us 17,us 18,us 19,us 20,us 21,us 22,us 23,us 24,us 25,us 26,us 27,us 28,us 29,us 30,us 31,us 32,us 33,us 34,us 35,us 36,us 37,us 38,us 39,us 40,us 41,us 42,us 43,us 44,us 45,us 46,us 47,us 48,us 49,us 50,us 51,us 52,us 53,us 54,us 55,us 56,us 57,us 58,us 59,us 60,us 61,us 62,us 63,us 64,us 65,us 66,us 67,us 68,us 69,us 70,us 71],defers:=a.defers }:=by
 refine⟨fun i=>a.tmps.getD i undef,?_⟩
 have e:=ly 72 a.tmps h.size
 have e2:((List.range 72).map (fun i=>a.tmps.getD i undef)).toArray=#[a.tmps.getD 0 undef,a.tmps.getD 1 undef,a.tmps.getD 2 undef,a.tmps.getD 3 undef,a.tmps.getD 4 undef,a.tmps.getD 5 undef,a.tmps.getD 6 undef,a.tmps.getD 7 undef,a.tmps.getD 8 undef,a.tmps.getD 9 undef,a.tmps.getD 10 undef,a.tmps.getD 11 undef,a.tmps.getD 12 undef,a.tmps.getD 13 undef,a.tmps.getD 14 undef,a.tmps.getD 15 undef,a.tmps.getD 16 undef,a.tmps.getD 17 undef,a.tmps.getD 18 undef,a.tmps.getD 19 undef,a.tmps.getD 20 undef,a.tmps.getD 21 undef,a.tmps.getD 22 undef,a.tmps.getD 23 undef,a.tmps.getD 24 undef,a.tmps.getD 25 undef,a.tmps.getD 26 undef,a.tmps.getD 27 undef,a.tmps.getD 28 undef,a.tmps.getD 29 undef,a.tmps.getD 30 undef,a.tmps.getD 31 undef,a.tmps.getD 32 undef,a.tmps.getD 33 undef,a.tmps.getD 34 undef,a.tmps.getD 35 undef,a.tmps.getD 36 undef,a.tmps.getD 37 undef,a.tmps.getD 38 undef,a.tmps.getD 39 undef,a.tmps.getD 40 undef,a.tmps.getD 41 undef,a.tmps.getD 42 undef,a.tmps.getD 43 undef,a.tmps.getD 44 undef,a.tmps.getD 45 undef,a.tmps.getD 46 undef,a.tmps.getD 47 undef,a.tmps.getD 48 undef,a.tmps.getD 49 undef,a.tmps.getD 50 undef,a.tmps.getD 51 undef,a.tmps.getD 52 undef,a.tmps.getD 53 undef,a.tmps.getD 54 undef,a.tmps.getD 55 undef,a.tmps.getD 56 undef,a.tmps.getD 57 undef,a.tmps.getD 58 undef,a.tmps.getD 59 undef,a.tmps.getD 60 undef,a.tmps.getD 61 undef,a.tmps.getD 62 undef,a.tmps.getD 63 undef,a.tmps.getD 64 undef,a.tmps.getD 65 undef,a.tmps.getD 66 undef,a.tmps.getD 67 undef,a.tmps.getD 68 undef,a.tmps.getD 69 undef,a.tmps.getD 70 undef,a.tmps.getD 71 undef]:=rfl
 rw[h.t0,h.t1,h.t2,h.t3,h.t4,h.t5,h.t6,h.t8,h.t9,h.t10,h.t11,h.t12,h.t13] at e2
 rw[e2] at e
 dsimp only
 rw[←e]
theorem kq {w0 W:World}{ds:List Deferred}{tmps:Array Value}{v8 v9 v10:Value}{res:Option St×List (St×av)} (hD:di w0.heap.size W ds) (h8:tmps.getD 8 undef=v8) (h9:tmps.getD 9 undef=v9) (h10:tmps.getD 10 undef=v10)
  (hQ:fs w0 res (.returned (.tuple #[v8,v9,v10])) W):LeavesInM Fence.wide 9 Tryz.prog Tryz.f24 tmps (fs w0 res) ds .returning W:=by
 obtain⟨Ds,h1,rfl,h2⟩:=hD
 refine fV Ds W h1 h2 (fun w' hs=>⟨_,results_tmp3 rfl _ _ _,?_⟩)
 rw[h8,h9,h10]
 exact hQ.shut hs
theorem mn {R:List (St×av)}{y:St}{st:av} (hy:y∉au R):eP (gA R) y st.val=gA (R++[(y,st)]):=by
 funext z
 unfold eP gA
 rw[mX hy]
 split<;>rfl
theorem ry (x:St):eP (fun _=>none) x (av.val ⟨St.zero,⟨0,0⟩,true⟩)=gA (kO x):=by
 have h:(fun _=>none:St→Option Value)=gA []:=rfl
 rw[h]
 exact mn (R:=[]) (by unfold au;simp)
theorem cO {P:Program}{f:FuncId}{fn:Func} (hf:P.funcs[f]?=some fn) (hb:fn.body.isNone=false) (hn:(fn.name == "runtime.NumGoroutine")=false) (args:Array Value) (w:World):(callFunc f args).run P w=.ok (.enter f args) w:=by
 have hb':¬ fn.body=none:=fun e=>by rw[e] at hb;cases hb
 have hn':¬ fn.name = "runtime.NumGoroutine" := fun e=>by rw[e] at hn;exact absurd hn (by decide)
 simp[callFunc,go_sem,hf,hb',hn']
def eL (Q:Exit→Act→World→Prop):Exit→Act→World→Prop
 | .normal,a,w=>Q .normal a w
 | _,_,_=>False
theorem fi {Q:Exit→Act→World→Prop}{e:Exit}{a:Act}{w:World} (h:eL Q e a w):Q e a w:=by
 cases e<;>first | exact h | exact h.elim
structure aZ (B:Nat) (W W':World):Prop where
 below:Below B W W'
 same:∀ (i:Nat) (o:Obj),W.heap[i]?=some o→(∀ r,o≠Obj.loop r)→W'.heap[i]?=some o
theorem aZ.alloc {B:Nat}{W:World} (h:B≤W.heap.size) (o:Obj):aZ B W (W.alloc o) :=
 ⟨(Below.refl _ _).alloc h o,fun i o' hi _=>by rw[Below.heap_alloc _ _ _ (uw.1 hi).1];exact hi⟩
theorem aZ.turn {B l:Nat}{W:World}{o:Loop}{o':Obj} (hB:B≤l) (hl:W.heap[l]?=some (.loop o)):aZ B W (W.putObj l o') :=
 ⟨⟨rfl,rfl,rfl,by simp,fun k hk=>World.putObj_heap_other (by omega)⟩,fun i o2 hi hn=>by
  rw[World.putObj_heap_other (fun e=>by subst e;rw[hl] at hi;cases hi;exact hn _ rfl)];exact hi⟩
theorem aZ.of_below {B:Nat}{W W':World} (h:Below W.heap.size W W') (hB:B≤W.heap.size):aZ B W W' :=
 ⟨h.mono hB,fun i o hi _=>by rw[h.block i (uw.1 hi).1];exact hi⟩
theorem aZ.cell {B:Nat}{W W':World} (h:aZ B W W') {p:Addr}{v:Value} (hc:W.cell? p=some v):W'.cell? p=some v:=by
 obtain⟨o,ho⟩:∃ o,W.heap[p.block]?=some o:=⟨_,Array.getElem?_eq_getElem (block_lt_of_cell hc)⟩
 have hn:∀ r,o≠Obj.loop r:=by
  intro r e
  subst e
  unfold World.cell? at hc
  rw[ho] at hc
  cases hc
 unfold World.cell? at hc ⊢
 rw[ho] at hc
 rw[h.same _ _ ho hn]
 exact hc
theorem aZ.map {B:Nat}{W W':World} (h:aZ B W W') {mt N s:Nat}{R:List (St×av)} (hT:fM W mt N s R):fM W' mt N s R:=by
 obtain⟨D,⟨es,clock,hb,r⟩,h2⟩:=hT
 exact⟨D,⟨es,clock,h.same _ _ hb (by intro x hx;cases hx),r⟩,h2⟩
theorem gg.beside {w0 wr wx:World}{m:Nat}{fa:Value}{b4 b6 b11 mt B:Nat}{R:List (St×av)} (h:gg w0 wr m fa b4 b6 b11 mt R) (hb:aZ B wr wx) (hB:w0.heap.size≤B):gg w0 wx m fa b4 b6 b11 mt R:=by
 obtain⟨N,s,hT,hN⟩:=h.tab
 exact⟨h.below.trans (hb.below.mono hB),hb.same _ _ h.h4 (by intro r e;cases e),hb.same _ _ h.h6 (by intro r e;cases e),hb.same _ _ h.h11 (by intro r e;cases e),⟨N,s,hb.map hT,hN⟩,h.lt⟩
structure k_ (M:ar) (al:Ev→Bool) (fd:St→Bool) (x:St) (w0 W:World) (m:Nat) (fa:Value) (b4 b6 b11 mt:Nat) (ds:List Deferred) (b13 b14:Nat) (now:St) (R:List (St×av)) (Q:List St) (qv:Value) (vs:List Ev):Prop where
 K:gg w0 W m fa b4 b6 b11 mt R
 c13:W.heap[b13]?=some (.cells #[qv] 65 (0,0))
 hq:bG w0.heap.size W qv (now :: Q)
 hn:qv.ownBlock≠some b14
 D:di w0.heap.size W ds
 P:StP W b14 now
 I:Mid M al fd x now R ds.length vs
 E:(now :: Q)=(au R).drop ds.length
theorem k_.beside {M:ar}{al:Ev→Bool}{fd:St→Bool}{x:St}{w0 W W':World}{m:Nat}{fa:Value}{b4 b6 b11 mt B:Nat}{ds:List Deferred}{b13 b14:Nat}{now:St}{R:List (St×av)}{Q:List St}{qv:Value}{vs:List Ev}
  (h:k_ M al fd x w0 W m fa b4 b6 b11 mt ds b13 b14 now R Q qv vs) (hb:aZ B W W') (hB:w0.heap.size≤B):k_ M al fd x w0 W' m fa b4 b6 b11 mt ds b13 b14 now R Q qv vs:=by
 obtain⟨g,cur,hg,_,hgb⟩:=h.hq.block (by simp)
 refine⟨h.K.beside hb hB,hb.same _ _ h.c13 (by intro r e;cases e),h.hq.same (fun k hk _=>?_),h.hn,h.D.keep (fun D _ hd=>hb.same _ _ hd (by intro r e;cases e)),hb.same _ _ h.P (by intro r e;cases e),h.I,h.E⟩
 rw[hg] at hk
 cases hk
 rw[hb.same _ _ hgb (by intro r e;cases e)]
 exact hgb.symm
def EvP (W:World) (b:Nat) (v:Ev):Prop:=W.heap[b]?=some (.cells #[.int .i64 v.g,.int .i64 v.k] 31 (0,0))
def eh (M:ar) (al:Ev→Bool) (fd:St→Bool) (x:St) (w0:World) (m:Nat) (fa:Value) (b4 b6 b11 mt:Nat) (ds:List Deferred) (b13 b14:Nat) (now:St) (R0:List (St×av)) (Q0:List St) (j:Nat) (W:World):Prop :=
 ∃ R Q qv,((evs M.n).take j).foldl (gi M al now) (R0,Q0)=(R,Q)∧k_ M al fd x w0 W m fa b4 b6 b11 mt ds b13 b14 now R Q qv ((evs M.n).take j)
theorem eh.abide {M:ar}{al:Ev→Bool}{fd:St→Bool}{x:St}{w0:World}{m:Nat}{fa:Value}{b4 b6 b11 mt B:Nat}{ds:List Deferred}{b13 b14:Nat}{now:St}{R0:List (St×av)}{Q0:List St} (hB:w0.heap.size≤B) :
  pJ B (eh M al fd x w0 m fa b4 b6 b11 mt ds b13 b14 now R0 Q0):=by
 rintro j W ⟨R,Q,qv,he,h⟩
 refine⟨fun o=>⟨R,Q,qv,he,h.beside (aZ.alloc (uo _) o) h.K.below.size⟩,fun l o o' hl ho=>⟨R,Q,qv,he,h.beside (aZ.turn hl ho) hB⟩⟩
theorem eh.step {M:ar} (G:M.Good) {al:Ev→Bool}{fd:St→Bool}{x:St}{w0 W W':World}{m:Nat}{fa:Value}{b4 b6 b11 mt:Nat}{ds:List Deferred}{b13 b14:Nat}{now:St}{R0 R:List (St×av)}{Q0 Q:List St}{qv qv':Value}{j:Nat}{v:Ev}
  (hf:((evs M.n).take j).foldl (gi M al now) (R0,Q0)=(R,Q)) (S:k_ M al fd x w0 W m fa b4 b6 b11 mt ds b13 b14 now R Q qv ((evs M.n).take j)) (hv:(evs M.n)[j]?=some v) (hok:cx M v=true)
  {R':List (St×av)} {Q':List St} (ha:gi M al now (R,Q) v=(R',Q')) (K':gg w0 W' m fa b4 b6 b11 mt R') (c':W'.heap[b13]?=some (.cells #[qv'] 65 (0,0))) (q':bG w0.heap.size W' qv' (now :: Q')) (n':qv'.ownBlock≠some b14) (D':di w0.heap.size W' ds) (P':StP W' b14 now) :
  eh M al fd x w0 m fa b4 b6 b11 mt ds b13 b14 now R0 Q0 (j+1) W':=by
 have ht:(evs M.n).take (j+1)=(evs M.n).take j++[v]:=by
  rw[uO,hv];rfl
 obtain⟨m1,m2⟩:=lQ G S.I hok S.E
 rw[ha] at m1 m2
 refine⟨R',Q',qv',by rw[ht,wO,hf];exact ha,K',c',q',n',D',P',by rw[ht];exact m1,m2⟩
theorem eh.skip {M:ar} (G:M.Good) {al:Ev→Bool}{fd:St→Bool}{x:St}{w0 W W':World}{m:Nat}{fa:Value}{b4 b6 b11 mt:Nat}{ds:List Deferred}{b13 b14:Nat}{now:St}{R0 R:List (St×av)}{Q0 Q:List St}{qv:Value}{j:Nat}{v:Ev}
  (hf:((evs M.n).take j).foldl (gi M al now) (R0,Q0)=(R,Q)) (S:k_ M al fd x w0 W m fa b4 b6 b11 mt ds b13 b14 now R Q qv ((evs M.n).take j)) (hv:(evs M.n)[j]?=some v) (hok:cx M v=true)
  (ha:((Tab.get R (bB M now v)).isNone&&al v)=false) (hb:Below W.heap.size W W') :
  eh M al fd x w0 m fa b4 b6 b11 mt ds b13 b14 now R0 Q0 (j+1) W':=by
 have S':=S.beside (aZ.of_below hb (uo _)) S.K.below.size
 refine eh.step G hf S hv hok (R':=R) (Q':=Q) ?_ S'.K S'.c13 S'.hq S'.hn S'.D S'.P
 unfold gi
 dsimp only
 rw[if_neg (by rw[ha];exact uC)]
theorem dx {B:Nat}{W W':World} (h:Below W.heap.size W W'):KeepsFrom B W W' :=
 ⟨h.size,fun k _ _ hk _=>(h.block k (uw.1 hk).1).trans hk⟩
theorem fM.ne {W:World}{mt N s k:Nat}{R:List (St×av)} (hT:fM W mt N s R) {o:Obj} (h:W.heap[k]?=some o) (ho:∀ es c,o≠Obj.map es c):some k≠some mt:=by
 obtain⟨D,⟨es,clock,hb,r⟩,h2⟩:=hT
 intro e
 cases e
 rw[hb] at h
 cases h
 exact ho _ _ rfl
theorem eh.enter {M:ar} (G:M.Good) {al:Ev→Bool}{fd:St→Bool}{x:St}{w0 W W6 W8:World}{m:Nat}{fa:Value}{b4 b6 b11 mt:Nat}{ds:List Deferred}{b13 b14:Nat}{now y:St}{R0 R:List (St×av)}{Q0 Q:List St}{qv qv':Value}{j N s:Nat}{v:Ev}
  (hf:((evs M.n).take j).foldl (gi M al now) (R0,Q0)=(R,Q)) (S:k_ M al fd x w0 W m fa b4 b6 b11 mt ds b13 b14 now R Q qv ((evs M.n).take j)) (hv:(evs M.n)[j]?=some v) (hok:cx M v=true)
  (hy:bB M now v=y) (hg:Tab.get R y=none) (ha:al v=true) (h13:w0.heap.size≤b13)
  (hT:fM W6 mt N s (R++[(y,⟨now,v,false⟩)])) (hN:N≤R.length+1) (g6:W.grownBy W6 (some mt))
  (g8:(W6.alloc (.cells #[.int .i64 y.a0,.int .i64 y.a1,.int .i64 y.a2,.int .i64 y.f0,.int .i64 y.f1,.int .i64 y.f2] 71)).grownBy W8 qv.ownBlock) (hQ:bG w0.heap.size W8 qv' ((now :: Q)++[y]))
  (hw:qv'.ownBlock=qv.ownBlock∨∃ k,qv'.ownBlock=some k∧(W6.alloc (.cells #[.int .i64 y.a0,.int .i64 y.a1,.int .i64 y.a2,.int .i64 y.f0,.int .i64 y.f1,.int .i64 y.f2] 71)).heap.size≤k) :
  eh M al fd x w0 m fa b4 b6 b11 mt ds b13 b14 now R0 Q0 (j+1) (W8.setCell ⟨b13,0,none⟩ qv')∧W8.heap[b13]?=some (.cells #[qv] 65 (0,0))∧(∀ B,mt<B→KeepsFrom B W (W8.setCell ⟨b13,0,none⟩ qv')):=by
 obtain⟨gq,cur,hgq,hBq,hrq⟩:=S.hq.block (by simp)
 obtain⟨N0,s0,hT0,hN0⟩:=S.K.tab
 -- what is neither the table nor the queue's block lies as it lay
 have far:∀ (k:Nat) (o:Obj),W.heap[k]?=some o→(∀ es c,o≠Obj.map es c)→k≠gq→W8.heap[k]?=some o:=by
  intro k o hk ho hne
  have hl:=ag hk
  have h6:=(g6.block k hl (hT0.ne hk ho)).trans hk
  have h7:(W6.alloc (.cells #[.int .i64 y.a0,.int .i64 y.a1,.int .i64 y.a2,.int .i64 y.f0,.int .i64 y.f1,.int .i64 y.f2] 71)).heap[k]?=some o:=(heap_alloc_old _ _ (ag h6)).trans h6
  rw[g8.block k (ag h7) (by rw[hgq];intro e;cases e;exact hne rfl)]
  exact h7
 have neq:∀ (k:Nat) (cs:Array Value) (t:TypeId),W.heap[k]?=some (.cells cs t (0,0))→t≠71→k≠gq:=by
  intro k cs t hk ht e
  subst e
  rw[hrq] at hk
  cases hk
  exact ht rfl
 have c13:=far b13 _ S.c13 (by intro es c e;cases e) (neq _ _ _ S.c13 (by decide))
 have c4:=far b4 _ S.K.h4 (by intro es c e;cases e) (neq _ _ _ S.K.h4 (by decide))
 have c6:=far b6 _ S.K.h6 (by intro es c e;cases e) (neq _ _ _ S.K.h6 (by decide))
 have c11:=far b11 _ S.K.h11 (by intro es c e;cases e) (neq _ _ _ S.K.h11 (by decide))
 have cP:=far b14 _ S.P (by intro es c e;cases e) (fun e=>S.hn (by rw[hgq,e]))
 have lm:mt<W6.heap.size:=hT.lt
 have hT8:fM W8 mt N s (R++[(y,⟨now,v,false⟩)]):=by
  refine hT.same ?_
  rw[g8.block mt (by simp;omega) (by
   rw[hgq]
   intro e
   have:=hT0.ne hrq (by intro es c e;cases e)
   exact this e.symm)]
  exact heap_alloc_old _ _ lm
 have ne13:∀ (k:Nat) (cs:Array Value) (t:TypeId),W.heap[k]?=some (.cells cs t (0,0))→t≠65→k≠b13:=by
  intro k cs t hk ht e
  subst e
  rw[S.c13] at hk
  cases hk
  exact ht rfl
 have hb6:Below w0.heap.size W W6:=⟨g6.os,g6.tape,g6.output,g6.size,fun k hk=>g6.block k (uv hk S.K.below.size) (fun e=>by cases e;have:=S.K.lt;omega)⟩
 have hb8:Below w0.heap.size W (W8.setCell ⟨b13,0,none⟩ qv') :=
  ((hb6.alloc (uB S.K.below.size g6.size) _).grown g8 (by have:=S.K.below.size;have:=g6.size;simp;omega) (by rw[hgq];intro k hk;cases hk;exact hBq)).setCell (p:=⟨b13,0,none⟩) h13 _
 have put:∀ (k:Nat) (o:Obj),k≠b13→W8.heap[k]?=some o→(W8.setCell ⟨b13,0,none⟩ qv').heap[k]?=some o:=fun k o hne h=>(heap_setCell_other _ _ _ _ hne).trans h
 have ne13m:mt≠b13:=by
  intro e
  exact hT0.ne S.c13 (by intro es c e;cases e) (by rw[e])
 refine⟨eh.step G hf S hv hok (R':=R++[(y,(⟨now,v,false⟩:av))]) (Q':=Q++[y]) (qv':=qv') ?_ ⟨S.K.below.trans hb8,put _ _ (ne13 _ _ _ S.K.h4 (by decide)) c4,put _ _ (ne13 _ _ _ S.K.h6 (by decide)) c6,put _ _ (ne13 _ _ _ S.K.h11 (by decide)) c11,⟨N,s,hT8.same (heap_setCell_other W8 ⟨b13,0,none⟩ mt qv' ne13m),by simpa using hN⟩,S.K.lt⟩ ?_ ?_ ?_ ?_ ?_,c13,?_⟩
 ·unfold gi
  dsimp only
  rw[hy,hg,ha]
  rfl
 ·rw[heap_setCell_same _ _ _ _ _ _ c13];rfl
 ·refine hQ.same (fun k hk hkl=>heap_setCell_other _ _ _ _ ?_)
  rintro rfl
  rcases hw with h | ⟨k',h,hk'⟩
  ·rw[h,hgq] at hk;cases hk;exact neq _ _ _ S.c13 (by decide) rfl
  ·rw[h] at hk;cases hk
   have:=ag S.c13
   have:=g6.size
   simp at hk'
   omega
 ·rcases hw with h | ⟨k',h,hk'⟩
  ·rw[h];exact S.hn
  ·rw[h];intro e;cases e
   have:=ag S.P
   have:=g6.size
   simp at hk'
   omega
 ·refine S.D.keep (fun D _ hd=>?_)
  refine put D _ ?_ (far D _ hd (by intro es c e;cases e) ?_)
  ·rintro rfl;rw[S.c13] at hd;cases hd
  ·rintro rfl;rw[hrq] at hd;cases hd
 ·exact put _ _ (ne13 _ _ _ S.P (by decide)) cP
 ·intro B hB
  refine⟨hb8.size,fun k o hk ho hc=>?_⟩
  refine put k o ?_ (?_)
  ·rintro rfl;rw[S.c13] at ho;cases ho;cases hc
  ·have hl:=ag ho
   have hkm:some k≠some mt:=by intro e;cases e;omega
   have hkg:k≠gq:=by rintro rfl;rw[hrq] at ho;cases ho;cases hc
   have h6:=(g6.block k hl hkm).trans ho
   have h7:(W6.alloc (.cells #[.int .i64 y.a0,.int .i64 y.a1,.int .i64 y.a2,.int .i64 y.f0,.int .i64 y.f1,.int .i64 y.f2] 71)).heap[k]?=some o:=(heap_alloc_old _ _ (ag h6)).trans h6
   rw[g8.block k (ag h7) (by rw[hgq];intro e;cases e;exact hkg rfl)]
   exact h7
theorem fP {F:Fence}{n:Nat}{P:Program}{w w':World}{ops:Array Oper}{rest:List Oper}{o:Oper}{a:Act}{Q:Exit→Act→World→Prop} (hg:o.guard=none) (s x:Operand) (t:TypeId)
  (hop:o.op=Op.call { callee:=Callee.builtin Builtin.append,args:=#[s,x],argTypes:=#[t,t] }) {v x' v':Value} (hs:a.eval s=v) (hx:a.eval x=x') (hrun:(Builtin.append_ #[t,t] o.type #[v,x']).run P w=.ok v' w')
  (hK:wpListIn F n P ops Q rest (a.put o.dst v') w'):wpListIn F n P ops Q (o :: rest) a w:=by
 refine wpListIn_plain hg fun K hK'=>?_
 unfold Oper.wpIn
 refine⟨?_,?_⟩
 ·simp[Oper.about,hop,resolve,Target.leads,Sem.run_pure]
 ·rw[Oper.semAt_plain F _ _ (by rw[hop];intro c hc';cases hc')]
  simp[execOp,hop,resolve,invoke,builtin,hs,hx,hrun,Result.andThen]
  exact hK' _ _ hK
structure tb (a:Act) (b4 b6 b11 b13 b14 b15:Nat):Prop where
 size:a.tmps.size=72
 df:a.defers=[]
 t4:a.tmps.getD 4 undef=.pointer (some ⟨b4,0,none⟩)
 t6:a.tmps.getD 6 undef=.pointer (some ⟨b6,0,none⟩)
 t11:a.tmps.getD 11 undef=.pointer (some ⟨b11,0,none⟩)
 t13:a.tmps.getD 13 undef=.pointer (some ⟨b13,0,none⟩)
 t14:a.tmps.getD 14 undef=.pointer (some ⟨b14,0,none⟩)
 t15:a.tmps.getD 15 undef=.pointer (some ⟨b15,0,none⟩)
theorem tb.open {a:Act}{b4 b6 b11 b13 b14 b15:Nat} (h:tb a b4 b6 b11 b13 b14 b15):∃ us:Nat→Value,a={ tmps:=#[us 0,us 1,us 2,us 3,.pointer (some ⟨b4,0,none⟩),us 5,.pointer (some ⟨b6,0,none⟩),us 7,us 8,us 9,us 10,.pointer (some ⟨b11,0,none⟩),us 12,.pointer (some ⟨b13,0,none⟩),.pointer (some ⟨b14,0,none⟩),.pointer (some ⟨b15,0,none⟩),us 16,us 17,us 18,us 19,us 20,us 21,us 22,us 23,us 24,us 25,us 26,us 27,us 28,us 29,us 30,us 31,us 32,us 33,us 34,us 35,us 36,us 37,us 38,us 39,us 40,us 41,us 42,us 43,us 44,us 45,us 46,us 47,us 48,us 49,us 50,us 51,us 52,us 53,us 54,us 55,us 56,us 57,us 58,us 59,us 60,us 61,us 62,us 63,us 64,us 65,us 66,us 67,us 68,us 69,us 70,us 71],defers:=[] }:=by
 refine⟨fun i=>a.tmps.getD i undef,?_⟩
 have e:=ly 72 a.tmps h.size
 have e2:((List.range 72).map (fun i=>a.tmps.getD i undef)).toArray=#[a.tmps.getD 0 undef,a.tmps.getD 1 undef,a.tmps.getD 2 undef,a.tmps.getD 3 undef,a.tmps.getD 4 undef,a.tmps.getD 5 undef,a.tmps.getD 6 undef,a.tmps.getD 7 undef,a.tmps.getD 8 undef,a.tmps.getD 9 undef,a.tmps.getD 10 undef,a.tmps.getD 11 undef,a.tmps.getD 12 undef,a.tmps.getD 13 undef,a.tmps.getD 14 undef,a.tmps.getD 15 undef,a.tmps.getD 16 undef,a.tmps.getD 17 undef,a.tmps.getD 18 undef,a.tmps.getD 19 undef,a.tmps.getD 20 undef,a.tmps.getD 21 undef,a.tmps.getD 22 undef,a.tmps.getD 23 undef,a.tmps.getD 24 undef,a.tmps.getD 25 undef,a.tmps.getD 26 undef,a.tmps.getD 27 undef,a.tmps.getD 28 undef,a.tmps.getD 29 undef,a.tmps.getD 30 undef,a.tmps.getD 31 undef,a.tmps.getD 32 undef,a.tmps.getD 33 undef,a.tmps.getD 34 undef,a.tmps.getD 35 undef,a.tmps.getD 36 undef,a.tmps.getD 37 undef,a.tmps.getD 38 undef,a.tmps.getD 39 undef,a.tmps.getD 40 undef,a.tmps.getD 41 undef,a.tmps.getD 42 undef,a.tmps.getD 43 undef,a.tmps.getD 44 undef,a.tmps.getD 45 undef,a.tmps.getD 46 undef,a.tmps.getD 47 undef,a.tmps.getD 48 undef,a.tmps.getD 49 undef,a.tmps.getD 50 undef,a.tmps.getD 51 undef,a.tmps.getD 52 undef,a.tmps.getD 53 undef,a.tmps.getD 54 undef,a.tmps.getD 55 undef,a.tmps.getD 56 undef,a.tmps.getD 57 undef,a.tmps.getD 58 undef,a.tmps.getD 59 undef,a.tmps.getD 60 undef,a.tmps.getD 61 undef,a.tmps.getD 62 undef,a.tmps.getD 63 undef,a.tmps.getD 64 undef,a.tmps.getD 65 undef,a.tmps.getD 66 undef,a.tmps.getD 67 undef,a.tmps.getD 68 undef,a.tmps.getD 69 undef,a.tmps.getD 70 undef,a.tmps.getD 71 undef]:=rfl
 rw[h.t4,h.t6,h.t11,h.t13,h.t14,h.t15] at e2
 rw[e2] at e
 dsimp only
 rw[←e,←h.df]
theorem sN (p:Tmp) (v:Value) (t:Array Value):(#[p].zip #[v]).foldl (fun t (p,v)=>t.setIfInBounds p v) t=t.setIfInBounds p v:=by simp
theorem jX (v:Ev) (w:World):Calls Tryz.prog 28 (gL v) w (fun e w'=>e=.returned (.bool true)∧Below w.heap.size w w'):=by
 unfold gL
 go_enter Tryz.func28,Tryz.ntmps28
 go_wp2
 go_ret
 exact⟨rfl,(Below.refl _ _).alloc (uo _) _⟩
theorem qS (y:St) (w:World):Calls Tryz.prog 57 #[.agg #[.int .i64 y.a0,.int .i64 y.a1,.int .i64 y.a2,.int .i64 y.f0,.int .i64 y.f1,.int .i64 y.f2]] w (fun e w'=>e=.returned (.bool false)∧Below w.heap.size w w'):=by
 go_enter Tryz.func57,Tryz.ntmps57
 go_wp2
 go_ret
 exact⟨rfl,(Below.refl _ _).alloc (uo _) _⟩
end Go.Proofs.YtlkniohhalnjjaaGreatDoor
