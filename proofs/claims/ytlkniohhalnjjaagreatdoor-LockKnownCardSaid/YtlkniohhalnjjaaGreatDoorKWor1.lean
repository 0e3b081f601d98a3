/- Lemmas of this claim. -/
import Derived.Test.YtlkniohhalnjjaaGreatDoorKMach
import Derived.Test.YtlkniohhalnjjaaGreatDoorKCnt
set_option linter.all false
set_option maxRecDepth 100000
set_option maxHeartbeats 8000000
namespace Go.Proofs.YtlkniohhalnjjaaGreatDoor
open Go.RowKit Dc Dg
def dQ (M:ar) (g:Nat):Nat→Nat→Nat
 | 0,_=>0
 | m+1,k=>if M.next g k<0 then 1 else dQ M g m (M.next g k).toNat+1
theorem ks (M:ar) (g:Nat):∀ (m k:Nat),dQ M g m k≤m
 | 0,_=>uo _
 | m+1,k=>by
  rw[dQ]
  split
  ·omega
  ·have:=ks M g m (M.next g k).toNat;omega
theorem iH {M:ar}{g:Nat}:∀ (m k:Nat),dD M g m k=true→dQ M g (m+1) k=dQ M g m k
 | 0,_,h=>by cases h
 | m+1,k,h=>by
  rw[dQ]
  conv=>rhs;rw[dQ]
  rw[dD] at h
  split
  ·rfl
  ·rename_i hn
   rw[if_neg hn] at h
   rw[iH m _ h]
def gz (M:ar) (g k:Nat):Nat:=dQ M g 8 k
theorem pA {M:ar}{g k:Nat}:gz M g k≤8:=ks M g 8 k
theorem mm {M:ar}{g k:Nat} (L:cV M g) (hk:k<M.rungs g) (h:0≤M.next g k):gz M g k=gz M g (M.next g k).toNat+1:=by
 have hnx:=L.good.next g k L.lt hk
 have h1:=iH 8 k (L.eight hk)
 unfold gz
 rw[←h1,dQ,if_neg (by omega)]
theorem nD {M:ar}{g k:Nat}:1≤gz M g k:=by
 unfold gz
 rw[dQ]
 split<;>omega
abbrev fN:=Nat×Nat×Nat
def fW (M:ar) (g:Nat) (z:fN):Nat:=z.2.2*9+gz M g z.1
def iR (M:ar) (g:Nat) (L:List fN) (z:fN):Option Value:=if z∈L then some (.int .i64 (aC M g z.1 z.2.1 z.2.2)) else none
theorem of:Tryz.prog.underlying 89=some (.map 68 3):=by kernel_rfl
theorem sM (w:World):(zeroValue 3).run Tryz.prog w=.ok (.int .i64 0) w:=by kernel_rfl
structure cW (M:ar) (g:Nat) (w:World) (mt:Nat) (L:List fN):Prop where
 map:bj Tryz.prog 68 gO tA w mt L.length L.length (iR M g L)
 nd:L.Nodup
 ok:∀ z∈L,z.1<8∧z.2.1<4∧z.2.2≤8
theorem cW.len {M : ar} {g : Nat} {w : World} {mt : Nat} {L : List fN} (h : cW M g w mt L) : L.length ≤ 288 := by
  have h1 := jq 288 (L.map (fun z => (z.1 * 4 + z.2.1) * 9 + z.2.2)) ((List.pairwise_map).2 (h.nd.imp_of_mem (fun {a b} ha hb hne e => by
    have h1 := h.ok a ha
    have h2 := h.ok b hb
    obtain ⟨a1, a2, a3⟩ := a
    obtain ⟨b1, b2, b3⟩ := b
    simp only at h1 h2 e
    exact hne (by have e1 : a1 = b1 := by omega
                  have e2 : a2 = b2 := by omega
                  have e3 : a3 = b3 := by omega
                  rw [e1, e2, e3])))) (fun x hx => by
    obtain ⟨z, hz, rfl⟩ := ve.1 hx
    have := h.ok z hz
    omega)
  simpa using h1
theorem cW.kept {M:ar}{g:Nat}{w w':World}{mt:Nat}{L:List fN} (h:cW M g w mt L) (hb:w'.heap[mt]?=w.heap[mt]?):cW M g w' mt L:=⟨h.map.same hb,h.nd,h.ok⟩
theorem cW.ne {M:ar}{g:Nat}{w:World}{mt:Nat}{L:List fN} (h:cW M g w mt L) {k:Nat}{cs:Array Value}{t:TypeId}{fr:Nat×Nat} (hk:w.heap[k]?=some (.cells cs t fr)):k≠mt:=by
 obtain⟨D,⟨es,clock,hb,_⟩,_⟩:=h.map
 rintro rfl
 rw[hb] at hk
 cases hk
theorem qP {M:ar}{g:Nat}{L:List fN}{z:fN} (hz:z∉L):eP (iR M g L) z (.int .i64 (aC M g z.1 z.2.1 z.2.2))=iR M g (L++[z]):=by
 funext y
 unfold eP iR
 by_cases hy:y=z
 ·subst hy;rw[if_pos rfl,if_pos (by simp)]
 ·rw[if_neg hy];simp[hy]
theorem cW.put {M:ar}{g:Nat}{w:World}{mt:Nat}{L:List fN} (h:cW M g w mt L) {z:fN} (hz:z∉L) (hok:z.1<8∧z.2.1<4∧z.2.2≤8) :
  ∃ w',(Instr.mapUpdate 89 (.map (some mt)) (gO z) (.int .i64 (aC M g z.1 z.2.1 z.2.2))).run Tryz.prog w=.ok () w'∧cW M g w' mt (L++[z])∧w.grownBy w' (some mt):=by
 have hl:=h.len
 obtain⟨w',hr,hM,hg⟩:=h.map.store encT of (by unfold maxLen;omega) (k:=z) ⟨by omega,by omega,by omega⟩ (.int .i64 (aC M g z.1 z.2.1 z.2.2))
 rw[qP hz] at hM
 have:(iR M g L z).isSome=false:=by unfold iR;rw[if_neg hz];rfl
 rw[this,if_neg (by simp)] at hM
 refine⟨w',hr,⟨by rw[uF];exact hM,wQ.2 ⟨h.nd,by simp,fun a ha b hb e=>by simp at hb;subst hb;subst e;exact hz ha⟩,fun y hy=>?_⟩,hg⟩
 rcases uV.1 hy with hy | hy
 ·exact h.ok y hy
 ·simp at hy;subst hy;exact hok
structure WB (w:World) (gs:List Gd) (g m bn on cn bu ou cu bb ob cb bv ov cv br orr cr:Nat):Prop where
 n0:w.cell? ⟨m,1,none⟩=some (.slice (some ⟨bn,on,none⟩) gs.length cn)
 b0:w.cell? ⟨m,2,none⟩=some (.slice (some ⟨bb,ob,none⟩) gs.length cb)
 n1:w.cell? ⟨bn,on+g,none⟩=some (.slice (some ⟨bu,ou,none⟩) (ac gs g).length cu)
 b1:w.cell? ⟨bb,ob+g,none⟩=some (.slice (some ⟨bv,ov,none⟩) (ac gs g).length cv)
 n2:∀ k,k<(ac gs g).length→w.cell? ⟨bu,ou+k,none⟩=some (.int .i64 ((ad gs).next g k))
 b2:∀ k,k<(ac gs g).length→w.cell? ⟨bv,ov+k,none⟩=some (.int .i64 ((ad gs).back g k))
 t1:∀ k,k<(ac gs g).length→w.cell? ⟨br,orr+k*7+3,none⟩=some (.int .i64 ((ad gs).tries g k))
 t2:∀ k,k<(ac gs g).length→w.cell? ⟨br,orr+k*7+4,none⟩=some (.int .i64 ((ad gs).mins g k))
theorem WB.below {w w':World}{gs:List Gd}{g m bn on cn bu ou cu bb ob cb bv ov cv br orr cr:Nat} (h:WB w gs g m bn on cn bu ou cu bb ob cb bv ov cv br orr cr) (hb:Below w.heap.size w w'):WB w' gs g m bn on cn bu ou cu bb ob cb bv ov cv br orr cr :=
 ⟨(hb.cell (block_lt_of_cell h.n0)).trans h.n0,(hb.cell (block_lt_of_cell h.b0)).trans h.b0,(hb.cell (block_lt_of_cell h.n1)).trans h.n1,(hb.cell (block_lt_of_cell h.b1)).trans h.b1,fun k hk=>(hb.cell (block_lt_of_cell (h.n2 k hk))).trans (h.n2 k hk),fun k hk=>(hb.cell (block_lt_of_cell (h.b2 k hk))).trans (h.b2 k hk),fun k hk=>(hb.cell (block_lt_of_cell (h.t1 k hk))).trans (h.t1 k hk),fun k hk=>(hb.cell (block_lt_of_cell (h.t2 k hk))).trans (h.t2 k hk)⟩
theorem ui {gs:List Gd}{p:Option Addr}{c:Nat}{vn vb:Value}{mb N s:Nat}{f:Nat×Nat→Option Value}{w:World}{m g:Nat} (hP:bZ w m gs p c vn vb mb N s f) (hg:g<gs.length) (hk0:0<(ac gs g).length) :
  ∃ bg og bn on cn bu ou cu bb ob cb bv ov cv br orr cr,p=some ⟨bg,og,none⟩∧w.cell? ⟨bg,og+g*2+1,none⟩=some (.slice (some ⟨br,orr,none⟩) (ac gs g).length cr)∧WB w gs g m bn on cn bu ou cu bb ob cb bv ov cv br orr cr:=by
 obtain⟨pn,cn,e1,hn⟩:=hP.n.at_
 obtain⟨bn,on,e2,hbn,hn⟩:=hn (by omega)
 obtain⟨u,hn1,hu⟩:=hn g hg
 obtain⟨pu,cu,e3,hu⟩:=hu.at_
 have l1:(eK gs g).length=(ac gs g).length:=by simp[eK]
 obtain⟨bu,ou,e4,hbu,hu3⟩:=hu (by omega)
 obtain⟨pb,cb,e5,hb⟩:=hP.b.at_
 obtain⟨bb,ob,e6,hbb,hb⟩:=hb (by omega)
 obtain⟨v,hb1,hv⟩:=hb g hg
 obtain⟨pv,cv,e7,hv⟩:=hv.at_
 have l2:(eI gs g).length=(ac gs g).length:=by simp[eI]
 obtain⟨bv,ov,e8,hbv,hv3⟩:=hv (by omega)
 obtain⟨bg,og,e9,hbg,hG⟩:=hP.G.at_ (by omega)
 obtain⟨q,cq,t0,t1,hR⟩:=hG g hg
 have hra:ac gs g=gs[g].rungs:=by unfold ac;rw[uu hg]
 obtain⟨br,orr,e10,hbr,hr⟩:=hR.at_ (by rw[←hra];omega)
 subst e1;subst e2;subst e3;subst e4;subst e5;subst e6;subst e7;subst e8;subst e10
 refine⟨bg,og,bn,on,cn,bu,ou,cu,bb,ob,cb,bv,ov,cv,br,orr,cq,e9,?_,hP.m1,hP.m2,?_,?_,fun k hk=>?_,fun k hk=>?_,fun k hk=>?_,fun k hk=>?_⟩
 ·rw[t1,hra]
 ·rw[hn1,l1]
 ·rw[hb1,l2]
 ·rw[hu3 k (by omega)];simp[eK]
 ·rw[hv3 k (by omega)];simp[eI]
 ·obtain⟨q1,c1,q2,c2,hr⟩:=hr k (by rw[←hra];omega)
  rw[hr.d3]
  show _=some (Value.int .i64 (aP gs g k).tries)
  unfold aP
  rw[uu hk]
  simp only[hra]
 ·obtain⟨q1,c1,q2,c2,hr⟩:=hr k (by rw[←hra];omega)
  rw[hr.d4]
  show _=some (Value.int .i64 (aP gs g k).minutes)
  unfold aP
  rw[uu hk]
  simp only[hra]
structure ld (w0 w:World) (gs:List Gd) (g m mt b4 b9 b10 b11 b12 br orr cr:Nat):Prop where
 bl:Below w0.heap.size w0 w
 lt:w0.heap.size≤mt
 h9:w.heap[b9]?=some (.cells #[.pointer (some ⟨m,0,none⟩)] 64 (0,0))
 h4:w.heap[b4]?=some (.cells #[.int .i64 g] 3 (0,0))
 h11:w.heap[b11]?=some (.cells #[.map (some mt)] 89 (0,0))
 h12:w.heap[b12]?=some (.cells #[.func (.func 30) #[] #[.pointer (some ⟨b9,0,none⟩),.pointer (some ⟨b4,0,none⟩),.pointer (some ⟨b11,0,none⟩),.pointer (some ⟨b12,0,none⟩),.pointer (some ⟨b10,0,none⟩)]] 90 (0,0))
 h10:w.heap[b10]?=some (.cells #[.slice (some ⟨br,orr,none⟩) (ac gs g).length cr] 59 (0,0))
theorem ld.kept {w0 w w':World}{gs:List Gd}{g m mt b4 b9 b10 b11 b12 br orr cr:Nat}{L:List fN} (h:ld w0 w gs g m mt b4 b9 b10 b11 b12 br orr cr) (hM:cW (ad gs) g w mt L) (hg:w.grownBy w' (some mt)):ld w0 w' gs g m mt b4 b9 b10 b11 b12 br orr cr :=
  ⟨h.bl.grown hg h.bl.size (fun k e=>by cases e;exact h.lt),h.lt,
   (hg.block _ (ag h.h9) (fun e=>hM.ne h.h9 (Option.some.inj e))).trans h.h9,(hg.block _ (ag h.h4) (fun e=>hM.ne h.h4 (Option.some.inj e))).trans h.h4,(hg.block _ (ag h.h11) (fun e=>hM.ne h.h11 (Option.some.inj e))).trans h.h11,(hg.block _ (ag h.h12) (fun e=>hM.ne h.h12 (Option.some.inj e))).trans h.h12,(hg.block _ (ag h.h10) (fun e=>hM.ne h.h10 (Option.some.inj e))).trans h.h10⟩
end Go.Proofs.YtlkniohhalnjjaaGreatDoor
