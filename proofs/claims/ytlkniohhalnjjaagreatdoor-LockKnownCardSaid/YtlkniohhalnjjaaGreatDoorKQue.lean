/- Lemmas of this claim. -/
import Derived.ArgAppend
import Derived.Test.YtlkniohhalnjjaaGreatDoorKRev
import Derived.Test.YtlkniohhalnjjaaGreatDoorKLock10
set_option linter.all false
set_option maxRecDepth 100000
set_option maxHeartbeats 8000000
namespace Go.Proofs.YtlkniohhalnjjaaGreatDoor
open Go.RowKit Dc Dg
def aw (x:St):List Value:=[.int .i64 x.a0,.int .i64 x.a1,.int .i64 x.a2,.int .i64 x.f0,.int .i64 x.f1,.int .i64 x.f2]
theorem eF (L:List St):(L.flatMap aw).length=L.length*6:=by
 induction L with
 | nil=>rfl
 | cons x L ih=>rw[u5,uF,ih];simp[aw];omega
def bG (B:Nat) (w:World) (v:Value) (q:List St):Prop:=∃ ao cap,v=.slice ao q.length cap∧q.length≤cap∧cap≤maxLen ∧
 (0<cap→∃ g off cur,ao=some ⟨g,off,none⟩∧B≤g∧w.heap[g]?=some (.cells cur 71 (0,0))∧off+cap*6≤cur.size∧∀ j u,(q.flatMap aw)[j]?=some u→cur[off+j]?=some u)
theorem bG.start {B:Nat}{w:World}{b:Nat}{x:St} (h:StP w b x) (hb:B≤b):bG B w (.slice (some ⟨b,0,none⟩) 1 1) [x]:=by
 refine⟨_,_,rfl,uo _,by unfold maxLen;omega,fun _=>⟨b,0,_,rfl,hb,h,by simp,fun j u hu=>?_⟩⟩
 simp only[u5,List.flatMap_nil,wT,aw] at hu
 rw[vh]
 simpa using hu
theorem bG.same {B:Nat}{w w':World}{v:Value}{q:List St} (h:bG B w v q) (hs:∀ k,v.ownBlock=some k→k<w.heap.size→w'.heap[k]?=w.heap[k]?):bG B w' v q:=by
 obtain⟨ao,cap,rfl,h1,h2,h3⟩:=h
 refine⟨ao,cap,rfl,h1,h2,fun hc=>?_⟩
 obtain⟨g,off,cur,rfl,hB,hg,h4⟩:=h3 hc
 exact⟨g,off,cur,rfl,hB,(hs g rfl (uw.1 hg).1).trans hg,h4⟩
theorem bG.below {B:Nat}{w w':World}{v:Value}{q:List St} (h:bG B w v q) (hb:Below w.heap.size w w'):bG B w' v q:=h.same (fun k _ hk=>hb.block k hk)
theorem bG.block {B:Nat}{w:World}{v:Value}{q:List St} (h:bG B w v q) (hq:q≠[]):∃ g cur,v.ownBlock=some g∧B≤g∧w.heap[g]?=some (.cells cur 71 (0,0)):=by
 obtain⟨ao,cap,rfl,h1,h2,h3⟩:=h
 have:0<q.length:=uJ.2 hq
 obtain⟨g,off,cur,rfl,hB,hg,h4⟩:=h3 (by omega)
 exact⟨g,cur,rfl,hB,hg⟩
theorem bG.len {B:Nat}{w:World}{v:Value}{q:List St} (h:bG B w v q):∃ ao cap,v=.slice ao q.length cap:=by
 obtain⟨ao,cap,rfl,_⟩:=h
 exact⟨ao,cap,rfl⟩
theorem bG.head {B:Nat}{w:World}{v:Value}{x:St}{q:List St} (h:bG B w v (x :: q)):∃ g off cap,v=.slice (some ⟨g,off,none⟩) (q.length+1) cap ∧
  w.cell? ⟨g,off,none⟩=some (.int .i64 x.a0)∧w.cell? ⟨g,off+1,none⟩=some (.int .i64 x.a1)∧w.cell? ⟨g,off+2,none⟩=some (.int .i64 x.a2)∧w.cell? ⟨g,off+3,none⟩=some (.int .i64 x.f0)∧w.cell? ⟨g,off+4,none⟩=some (.int .i64 x.f1)∧w.cell? ⟨g,off+5,none⟩=some (.int .i64 x.f2):=by
 obtain⟨ao,cap,rfl,h1,h2,h3⟩:=h
 simp only[uG] at h1
 obtain⟨g,off,cur,rfl,hB,hg,h4,h5⟩:=h3 (by omega)
 refine⟨g,off,cap,by simp,?_,?_,?_,?_,?_,?_⟩
 ·exact (cell_of_row w g off cur _ _ hg).trans (h5 0 _ (by simp[aw]))
 ·exact (cell_of_row w g _ cur _ _ hg).trans (h5 1 _ (by simp[aw]))
 ·exact (cell_of_row w g _ cur _ _ hg).trans (h5 2 _ (by simp[aw]))
 ·exact (cell_of_row w g _ cur _ _ hg).trans (h5 3 _ (by simp[aw]))
 ·exact (cell_of_row w g _ cur _ _ hg).trans (h5 4 _ (by simp[aw]))
 ·exact (cell_of_row w g _ cur _ _ hg).trans (h5 5 _ (by simp[aw]))
theorem mv:Tryz.prog.underlying 65=some (.slice 71):=by kernel_rfl
theorem tn:(Tryz.prog.info? 71).map (fun i=>(i.zero,i.size,i.bytes))=some (some (.agg #[.int .i64 0,.int .i64 0,.int .i64 0,.int .i64 0,.int .i64 0,.int .i64 0]),6,48):=by kernel_rfl
theorem ql:Tryz.prog.elem 65=71:=by kernel_rfl
theorem tC (w:World):(sizeOf 71).run Tryz.prog w=.ok 6 w:=by kernel_rfl
theorem bG.tail {B:Nat}{w:World}{v:Value}{x:St}{q:List St} (h:bG B w v (x :: q)):∃ v',(Instr.slice 65 v (some (.int .i64 1)) none none).run Tryz.prog w=.ok v' w∧bG B w v' q∧∀ k,v'.ownBlock=some k→v.ownBlock=some k:=by
 obtain⟨ao,cap,rfl,h1,h2,h3⟩:=h
 simp only[uG] at h1
 obtain⟨g,off,cur,rfl,hB,hg,h4,h5⟩:=h3 (by omega)
 have hr:=run_slice_l (P:=Tryz.prog) (w:=w) 65 (some ⟨g,off,none⟩) (q.length+1) cap (by rw[ql];exact mv) .i64 1 (by omega) (by omega)
 rw[ql,tC] at hr
 simp only[Result.andThen,sliced] at hr
 refine⟨_,hr,?_,?_⟩
 ·rw[show (1:Int).toNat=1 from rfl,show q.length+1-1=q.length from by omega]
  by_cases hc:cap=1
  ·have hq:q.length=0:=by omega
   refine⟨_,_,rfl,by omega,by omega,fun h=>by omega⟩
  ·rw[if_neg hc]
   refine⟨_,_,rfl,by omega,by omega,fun _=>⟨g,off+6,cur,?_,hB,hg,by omega,fun j u hu=>?_⟩⟩
   ·simp[Addr.add]
   ·have:=h5 (6+j) u (by rw[u5,vY (by simp[aw])];simpa[aw] using hu)
    rwa [←vw] at this
 ·intro k hk
  split at hk
  ·exact hk
  ·simpa[Addr.add,Value.ownBlock] using hk
theorem gV (g:Nat) (t:TypeId):∀ (news:List Value) (off:Nat) (w:World) (cur:Array Value),w.heap[g]?=some (.cells cur t (0,0))→off+news.length≤cur.size →
  ∃ cur',(w.setCells g off news).heap[g]?=some (.cells cur' t (0,0))∧cur'.size=cur.size∧(∀ j,j<off→cur'[j]?=cur[j]?)∧(∀ j,j<news.length→cur'[off+j]?=news[j]?)
 | [],off,w,cur,h,_=>⟨cur,h,rfl,fun _ _=>rfl,fun j hj=>by simp at hj⟩
 | x :: l,off,w,cur,h,hl=>by
  simp only[uG] at hl
  obtain⟨cur',h1,h2,h3,h4⟩:=gV g t l (off+1) (w.setCell ⟨g,off,none⟩ x) (cur.setIfInBounds off x) (heap_setCell_same w g off cur t x h) (by simp;omega)
  refine⟨cur',h1,by simpa using h2,fun j hj=>?_,fun j hj=>?_⟩
  ·rw[h3 j (by omega),Array.getElem?_setIfInBounds_ne (by omega)]
  ·cases j with
   | zero=>rw[vM,h3 off (by omega)];simp[Array.getElem?_setIfInBounds];omega
   | succ j =>
    have:=h4 j (by simp at hj;omega)
    rw[show off+(j+1)=off+1+j from by omega,this];rfl
theorem jR (g:Nat):∀ (news:List Value) (off:Nat) (w:World),(w.setCells g off news).heap.size=w.heap.size
 | [],_,_=>rfl
 | x :: l,off,w=>(jR g l (off+1) (w.setCell ⟨g,off,none⟩ x)).trans (by simp[World.setCell])
theorem fm (g:Nat):∀ (news:List Value) (off:Nat) (w:World),w.grownBy (w.setCells g off news) (some g)
 | [],_,w=>⟨rfl,rfl,rfl,uo _,fun _ _ _=>rfl⟩
 | x :: l,off,w=>by
  have h1:w.grownBy (w.setCell ⟨g,off,none⟩ x) (some g):=⟨rfl,rfl,rfl,by simp[World.setCell],fun k _ hn=>heap_setCell_other w _ k x (fun e=>hn (by rw[e]))⟩
  exact h1.trans (fm g l (off+1) _)
theorem ik (w:World) (ty:TypeId) {B:Nat}{v:Value}{q:List St} (h:bG B w v q) (hB:B≤w.heap.size) (hq:q.length≤1000000) {b:Nat}{x:St} (hx:StP w b x) :
  ∃ v' w',(Builtin.append_ #[65,65] ty #[v,.slice (some ⟨b,0,none⟩) 1 1]).run Tryz.prog w=.ok v' w'∧bG B w' v' (q++[x])∧w.grownBy w' v.ownBlock∧(v'.ownBlock=v.ownBlock∨∃ k,v'.ownBlock=some k∧w.heap.size≤k):=by
 obtain⟨i0,hi,hz0,hz1,hz2⟩:=info_parts tn
 obtain⟨ao,cap,rfl,h1,h2,h3⟩:=h
 have hnews:∀ j u,(aw x)[j]?=some u→w.cell? ((⟨b,0,none⟩:Addr).add j)=some u:=by
  intro j u hu
  rw[Addr.add_lit,vh,StP.cell hx]
  simpa[aw] using hu
 have hone:∀ u∈aw x,u.oneCell'=true:=by
  intro u hu
  simp only[aw,uy,ux,or_false] at hu
  rcases hu with rfl | rfl | rfl | rfl | rfl | rfl<;>rfl
 have hflat:((q++[x]).flatMap aw)=q.flatMap aw++aw x:=by simp
 -- a new row
 have fresh:∀ v' w',w'.ownsRow w.heap.size 71 6 v' (q.length+1) (q.flatMap aw++aw x)→w.grownBy w' none→bG B w' v' (q++[x])∧w.grownBy w' (Value.slice ao q.length cap).ownBlock∧(v'.ownBlock=(Value.slice ao q.length cap).ownBlock∨∃ k,v'.ownBlock=some k∧w.heap.size≤k):=by
  intro v' w' ho hg
  refine⟨?_,⟨hg.os,hg.tape,hg.output,hg.size,fun k hk _=>hg.block k hk (by simp)⟩,?_⟩
  rotate_left
  ·rcases ho.2 with ⟨_,h0⟩ | ⟨g,cap',cur,rfl,hb,hg2,hnc,hcm,hcs,htk⟩
   ·omega
   ·exact Or.inr ⟨g,rfl,hb⟩
  rcases ho.2 with ⟨_,h0⟩ | ⟨g,cap',cur,rfl,hb,hg2,hnc,hcm,hcs,htk⟩
  ·omega
  ·refine⟨_,_,by simp,by simpa using hnc,hcm,fun _=>⟨g,0,cur,rfl,by omega,hg2,by omega,fun j u hu=>?_⟩⟩
   rw[hflat] at hu
   have:=World.ownsRow.cells ho (g:=g) rfl j u hu
   rw[cC,vh] at this
   rw[vh,←cell_of_row w' g j cur _ _ hg2]
   exact this
 by_cases hr:q.length+1≤cap
 ·obtain⟨g,off,cur,rfl,hBg,hg,h4,h5⟩:=h3 (by omega)
  have hrun:=run_append_room_cells (P:=Tryz.prog) w 65 ty 71 i0 mv hi g off q.length cap ⟨b,0,none⟩ 1 1 (aw x) (by rw[hz1];rfl) hnews hone hr
   (fun j hj=>by
    rw[hz1,cell_of_row w g _ cur _ _ hg]
    have:off+q.length*6+j<cur.size:=by simp[aw] at hj;omega
    rw[Array.getElem?_eq_getElem this];rfl)
   (fun j _=>frozen_of_row w g _ cur _ hg)
  rw[hz1] at hrun
  obtain⟨cur',k1,k2,k3,k4⟩:=gV g 71 (aw x) (off+q.length*6) w cur hg (by simp[aw];omega)
  refine⟨_,_,hrun,⟨_,_,by simp,by simpa using hr,h2,fun _=>⟨g,off,cur',rfl,hBg,k1,by omega,fun j u hu=>?_⟩⟩,fm g _ _ w,Or.inl rfl⟩
  rw[hflat] at hu
  by_cases hj:j<q.length*6
  ·rw[uS (by rw[eF];exact hj)] at hu
   rw[k3 _ (by omega)]
   exact h5 j u hu
  ·rw[vY (by rw[eF];omega),eF] at hu
   have hl:j-q.length*6<(aw x).length:=(uD.1 hu).1
   have:=k4 _ hl
   rw[show off+q.length*6+(j-q.length*6)=off+j from by omega] at this
   rw[this];exact hu
 ·by_cases hc:0<cap
  ·obtain⟨g,off,cur,rfl,hBg,hg,h4,h5⟩:=h3 hc
   obtain⟨v',w',hrun,r1,r2⟩:=run_append_arg_grows (P:=Tryz.prog) w 65 ty 71 i0 _ 6 48 mv hi hz0 hz1 hz2 rfl (by decide) ⟨g,off,none⟩ q.length cap (q.flatMap aw) (eF q)
    (fun j u hu=>by rw[Addr.add_lit,cell_of_row w g _ cur _ _ hg];exact h5 j u hu) ⟨b,0,none⟩ 1 1 (aw x) rfl hnews (by omega) (by unfold maxLen;omega) (by omega)
   obtain⟨f1,f2⟩:=fresh v' w' r1 r2
   exact⟨v',w',hrun,f1,f2⟩
  ·obtain rfl:cap=0:=by omega
   have hq0:q=[]:=uQ (by omega)
   subst hq0
   cases ao with
   | none =>
    obtain⟨v',w',hrun,r1,r2,_⟩:=run_append_own (P:=Tryz.prog) w w.heap.size 65 ty 71 i0 _ 6 48 mv hi hz0 hz1 hz2 rfl (by decide) (.slice none 0 0) 0 [] (World.ownsRow_nil w _ _ 6) ⟨b,0,none⟩ 1 1 (aw x) rfl hnews hone (by unfold maxLen;omega) (by omega) (uo _)
    obtain⟨f1,f2⟩:=fresh v' w' (by simpa using r1) ⟨r2.os,r2.tape,r2.output,r2.size,fun k hk _=>r2.block k hk (by simp[Value.ownBlock])⟩
    exact⟨v',w',hrun,f1,f2⟩
   | some a' =>
    obtain⟨v',w',hrun,r1,r2⟩:=run_append_arg_grows (P:=Tryz.prog) w 65 ty 71 i0 _ 6 48 mv hi hz0 hz1 hz2 rfl (by decide) a' 0 0 [] (by simp) (by intro _ _ h';simp at h') ⟨b,0,none⟩ 1 1 (aw x) rfl hnews (by omega) (by unfold maxLen;omega) (by omega)
    obtain⟨f1,f2⟩:=fresh v' w' (by simpa using r1) r2
    exact⟨v',w',hrun,f1,f2⟩
end Go.Proofs.YtlkniohhalnjjaaGreatDoor
