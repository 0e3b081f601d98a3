/- Lemmas of this claim. -/
import Derived.Test.YtlkniohhalnjjaaGreatDoorKMade2
set_option linter.all false
set_option maxRecDepth 100000
set_option maxHeartbeats 8000000
namespace Go.Proofs.YtlkniohhalnjjaaGreatDoor
open Go.RowKit Dc Dg
structure MkD (gs:List Gd) (i:Nat) (Ln Lb:List (List Int×Value)) (N:Nat) (dom:Nat×Nat→Prop):Prop where
 hn:Ln.map (·.1)=(List.range i).map (eK gs)
 hb:Lb.map (·.1)=(List.range i).map (eI gs)
 hd:∀ g k,g<i→k<(ac gs g).length→dom (g,k)
 hN:N≤8*i
structure MkK (gs:List Gd) (i k:Nat) (l6 l7:List Int) (N:Nat) (dom:Nat×Nat→Prop):Prop where
 h6:l6=(List.range k).map ((ad gs).next i)
 h7:l7=(List.range k).map ((ad gs).back i)
 hd:∀ g k,g<i→k<(ac gs g).length→dom (g,k)
 hi:∀ k',k'<k→dom (i,k')
 hN:N≤8*i+k
theorem MkD.start (gs:List Gd):MkD gs 0 [] [] 0 (fun _=>False):=⟨rfl,rfl,fun _ _ h=>absurd h (wH _),vi _⟩
theorem MkD.open {gs:List Gd}{i:Nat}{Ln Lb:List (List Int×Value)}{N:Nat}{dom:Nat×Nat→Prop} (h:MkD gs i Ln Lb N dom):MkK gs i 0 [] [] N dom:=⟨rfl,rfl,h.hd,fun _ h=>absurd h (wH _),h.hN⟩
theorem MkK.step {gs:List Gd}{i k:Nat}{l6 l7:List Int}{N:Nat}{dom:Nat×Nat→Prop} (h:MkK gs i k l6 l7 N dom) {z6 z7:Int} (h6:(ad gs).next i k=z6) (h7:(ad gs).back i k=z7):MkK gs i (k+1) (l6++[z6]) (l7++[z7]) (N+1) (fun x=>dom x∨x=(i,k)) :=
 ⟨by rw[h.h6,vI,uZ];simp[h6],by rw[h.h7,vI,uZ];simp[h7],fun g k' hg hk=>Or.inl (h.hd g k' hg hk),fun k' hk=>by
  rcases vf k' k with h1 | h1
  ·exact Or.inl (h.hi k' h1)
  ·exact Or.inr (by rw[show k'=k from by omega]),by have:=h.hN;omega⟩
theorem MkK.close {gs:List Gd}{i k:Nat}{l6 l7:List Int}{N N0:Nat}{dom dom0:Nat×Nat→Prop}{Ln Lb:List (List Int×Value)} (h:MkK gs i k l6 l7 N dom) (hk:k=(ac gs i).length) (h8:k≤8) (D:MkD gs i Ln Lb N0 dom0) (u6 u7:Value):MkD gs (i+1) (Ln++[(l6,u6)]) (Lb++[(l7,u7)]) N dom:=by
 refine⟨?_,?_,fun g k' hg hk'=>?_,by have:=h.hN;omega⟩
 ·rw[uZ,D.hn,vI,uZ,h.h6,hk];rfl
 ·rw[uZ,D.hb,vI,uZ,h.h7,hk];rfl
 ·rcases vf g i with h1 | h1
  ·exact h.hd g k' h1 hk'
  ·have:g=i:=by omega
   subst this
   exact h.hi k' (by omega)
def EG (b5:Nat) (g:Gd) (q:Option Addr) (cq:Nat) (w:World):Prop:=w.heap[b5]?=some (.cells #[.string g.name,.slice q g.rungs.length cq] 61 (0,0))
def ER (b9:Nat) (r:Rg) (q1:Option Addr) (c1:Nat) (q2:Option Addr) (c2:Nat) (w:World):Prop:=w.heap[b9]?=some (.cells #[.string r.name,.string r.next,.string r.back,.int .i64 r.tries,.int .i64 r.minutes,.slice q1 r.needs.length c1,.slice q2 r.loops.length c2] 58 (0,0))
theorem aa {w:World}{b:Nat}{cs:Array Value}{t:TypeId} (h:w.heap[b]?=some (.cells cs t (0,0))) (j:Nat):w.cell? ⟨b,j,none⟩=cs[j]?:=by rw[World.cell?,h];rfl
theorem sU (gs:List Gd) (p:Option Addr) (c:Nat) (w:World) (hG:aQ w p gs) (hS:aS gs=true) :
  Calls Tryz.prog 21 #[.agg #[.slice p gs.length c]] w (fun e w'=>∃ (mB:Nat) (vn vb:Value) (mb N s:Nat) (f:Nat×Nat→Option Value),e=.returned (.pointer (some ⟨mB,0,none⟩))∧bZ w' mB gs p c vn vb mb N s f∧sP w' mB gs p c vn vb mb N s f∧Below w.heap.size w w'):=by
 obtain⟨hl1,hl3⟩:=bf hS
 have HS:=uk hS
 have hb1:Below w.heap.size w (w.alloc (.cells #[.slice p gs.length c] 28)):=(Below.refl _ _).alloc (uo _) _
 have s0:=af w #[.slice p gs.length c] 28 0 _ rfl
 have hz1:(w.alloc (.cells #[.slice p gs.length c] 28)).heap.size=w.heap.size+1:=by simp
 have HG1:=uk (hG.below hb1)
 have S0:=aL.new (w.alloc (.cells #[.slice p gs.length c] 28)) gs p c
 rw[hz1] at S0
 have hmm:=@run_makeMap Tryz.prog
 have c0:=(S0.blk)
 clear hG hS
 go_enter Tryz.func21,Tryz.ntmps21
 have e0:((w.alloc (.cells #[.slice p gs.length c] 28)).alloc (.map #[] 0)).alloc (.cells #[.slice p gs.length c,.slice none 0 0,.slice none 0 0,.map (some (w.heap.size+1))] 95)=((w.alloc (.cells #[.slice p gs.length c] 28)).alloc (.map #[] 0)).alloc (.cells #[.slice p gs.length c,.slice none 0 0,.slice none 0 0,.map (some (w.heap.size+1))] 95):=rfl
 clear e0 c0
 go_wp2_with fail
 generalize w.alloc (.cells #[.slice p gs.length c] 28)=w1 at S0 s0 hb1 hz1 HG1 ⊢
 generalize (w1.alloc (.map #[] 0)).alloc (.cells #[.slice p gs.length c,.slice none 0 0,.slice none 0 0,.map (some (w.heap.size+1))] 95)=w3 at S0 ⊢
 clear hmm
 go_loopw [23] (fun s23 wx=>∃ (i:Nat) (vmn vmb:Value) (Ln Lb:List (List Int×Value)) (N s:Nat) (f:Nat×Nat→Option Value) (dom:Nat×Nat→Prop),s23=.int .i64 i∧i≤gs.length∧aL w1 wx gs p c (w.heap.size+1+1) (w.heap.size+1) vmn vmb vmn vmb cL cL Ln Lb [] [] N s f dom (fun _=>True)∧MkD gs i Ln Lb N dom) (fun s23 _=>gs.length-(intOf s23).toNat)
 case atStart=>exact⟨0,cL,cL,[],[],0,0,_,_,rfl,by omega,S0,MkD.start gs⟩
 case round =>
  clear S0
  obtain⟨i,vmn,vmb,Ln,Lb,N,s,f,dom,rfl,hi,S,D⟩:=hrel
  by_cases hil:i<gs.length
  ·obtain⟨bg,og,rfl,hbg,hcg⟩:=HG1.out.at_ (by omega)
   obtain⟨q,cq,e0',e1',hR⟩:=hcg i hil
   obtain⟨g,hge⟩:∃ g,g=gs[i]:=⟨_,rfl⟩
   rw[←hge] at e0' e1' hR
   have e0:=(S.bl.cell (p:=⟨bg,_,none⟩) hbg).trans e0'
   have e1:=(S.bl.cell (p:=⟨bg,_,none⟩) hbg).trans e1'
   have HRA:=uk (show ac gs i=g.rungs by unfold ac;rw[uu hil,hge])
   have h8:=(bD (aX HS.out hil)).2
   rw[HRA.out] at h8
   have HRR:=uk hR
   have HCG:=uk hcg
   clear hge hcg hR e0' e1'
   have SA:=(S.lay (.cells #[.string g.name,.slice q g.rungs.length cq] 61)).less (E':=EG wr.heap.size g q cq) (fun w h=>h.2)
   have hbA:Below wr.heap.size wr (wr.alloc (.cells #[.string g.name,.slice q g.rungs.length cq] 61)):=(Below.refl _ _).alloc (uo _) _
   have t0:=aa SA.has 0
   have t1:=aa SA.has 1
   have DK:=D.open
   have hwrs:w1.heap.size≤wr.heap.size:=S.bl.size
   clear S
   go_wp2_with fail
   generalize wr.alloc (.cells #[.string g.name,.slice q g.rungs.length cq] 61)=wa at SA hbA t0 t1 ⊢
   generalize wr.heap.size=b5 at SA t0 t1 hbA hwrs ⊢
   clear t0 t1
   go_loopw [31,6,7] (fun s31 s6 s7 wx=>∃ (k:Nat) (l6 l7:List Int) (N s:Nat) (f:Nat×Nat→Option Value) (dom:Nat×Nat→Prop),s31=.int .i64 k∧k≤g.rungs.length∧aL w1 wx gs (some ⟨bg,og,none⟩) c (w.heap.size+1+1) (w.heap.size+1) vmn vmb vmn vmb s6 s7 Ln Lb l6 l7 N s f dom (EG b5 g q cq)∧MkK gs i k l6 l7 N dom) (fun s31 _ _ _=>g.rungs.length-(intOf s31).toNat)
   case atStart=>exact⟨0,[],[],N,s,f,dom,rfl,by omega,SA,DK⟩
   case round =>
    clear SA DK e0 e1
    obtain⟨k,l6,l7,N,s,f,dom,rfl,hk,S,DK⟩:=hrel
    by_cases hkl:k<g.rungs.length
    ·obtain⟨b,o,rfl,hbw,hcs⟩:=HRR.out.at_ (by omega)
     obtain⟨q1,c1,q2,c2,hr1⟩:=hcs k hkl
     obtain⟨r,hre⟩:∃ r,r=g.rungs[k]:=⟨_,rfl⟩
     rw[←hre] at hr1
     have hr:=hr1.below hbw S.bl
     have HNP:=uk hr1.n
     have HRE:=uk hre
     have d0:=hr.d0;have d1:=hr.d1;have d2:=hr.d2;have d3:=hr.d3;have d4:=hr.d4;have d5:=hr.d5;have d6:=hr.d6
     clear hcs hre hr1 hr
     have SB:=(S.lay (.cells #[.string r.name,.string r.next,.string r.back,.int .i64 r.tries,.int .i64 r.minutes,.slice q1 r.needs.length c1,.slice q2 r.loops.length c2] 58)).less (E':=fun w=>EG b5 g (some ⟨b,o,none⟩) cq w∧ER wr.heap.size r q1 c1 q2 c2 w) (fun w h=>h)
     have hbB:Below wr.heap.size wr (wr.alloc (.cells #[.string r.name,.string r.next,.string r.back,.int .i64 r.tries,.int .i64 r.minutes,.slice q1 r.needs.length c1,.slice q2 r.loops.length c2] 58)):=(Below.refl _ _).alloc (uo _) _
     have h6l:l6.length=k:=by rw[DK.h6];simp
     have h7l:l7.length=k:=by rw[DK.h7];simp
     clear S
     go_wp2_with fail
     generalize wr.alloc (.cells #[.string r.name,.string r.next,.string r.back,.int .i64 r.tries,.int .i64 r.minutes,.slice q1 r.needs.length c1,.slice q2 r.loops.length c2] 58)=wb at SB hbB ⊢
     generalize wr.heap.size=b9 at SB hbB ⊢
     clear d0 d1 d2 d3 d4 d5 d6
     have HSC:=uk (show ∀ wy,(EG b5 g (some ⟨b,o,none⟩) cq wy∧ER b9 r q1 c1 q2 c2 wy)→(fun wy:World=>wy.cell? ⟨b5,0,none⟩=some (.string g.name)∧wy.cell? ⟨b5,1,none⟩=some (.slice (some ⟨b,o,none⟩) g.rungs.length cq)∧wy.cell? ⟨b9,1,none⟩=some (.string r.next)∧wy.cell? ⟨b9,2,none⟩=some (.string r.back)) wy from fun wy h=>⟨aa h.1 0,aa h.1 1,aa h.2 1,aa h.2 2⟩)
     have SC:=SB.below (below_drewN (Below.refl _ _) 1)
     change aL w1 wb.drew _ _ _ _ _ _ _ _ _ _ _ _ _ _ _ _ _ _ _ _ at SC
     refine ax (fun wy:World=>wy.cell? ⟨b5,0,none⟩=some (.string g.name)∧wy.cell? ⟨b5,1,none⟩=some (.slice (some ⟨b,o,none⟩) g.rungs.length cq)∧wy.cell? ⟨b9,1,none⟩=some (.string r.next)∧wy.cell? ⟨b9,2,none⟩=some (.string r.back)) (fun _=>false) (by kernel_rfl) ?_
     generalize wb.drew=wc at SC ⊢
     have hS:=HSC.out _ SC.has
     refine ak (i:=0) (v:=?vv1) rfl (by kernel_rfl) (fun _ _ _ h=>h) rfl hS ?hy1 ?rest1
     case hy1=>(intro wy hy;(try dsimp only at hy);go_simp;try with_reducible rfl)
     try simp only[Act.put,uj,um,ul]
     refine ak (i:=1) (v:=?vv2) rfl (by kernel_rfl) (fun _ _ _ h=>h) rfl hS ?hy2 ?rest2
     case hy2=>(intro wy hy;(try dsimp only at hy);go_simp;try with_reducible rfl)
     try simp only[Act.put,uj,um,ul]
     refine ak (i:=2) (v:=?vv3) rfl (by kernel_rfl) (fun _ _ _ h=>h) rfl hS ?hy3 ?rest3
     case hy3=>(intro wy hy;(try dsimp only at hy);go_simp;try with_reducible rfl)
     try simp only[Act.put,uj,um,ul]
     refine ak (i:=3) (v:=?vv4) rfl (by kernel_rfl) (fun _ _ _ h=>h) rfl hS ?hy4 ?rest4
     case hy4=>(intro wy hy;(try dsimp only at hy);go_simp;try with_reducible rfl)
     try simp only[Act.put,uj,um,ul]
     refine ak (i:=7) (v:=?vv5) rfl (by kernel_rfl) (fun _ _ _ h=>h) rfl hS ?hy5 ?rest5
     case hy5=>(intro wy hy;(try dsimp only at hy);go_simp;try with_reducible rfl)
     try simp only[Act.put,uj,um,ul]
     refine ak (i:=8) (v:=?vv6) rfl (by kernel_rfl) (fun _ _ _ h=>h) rfl hS ?hy6 ?rest6
     case hy6=>(intro wy hy;(try dsimp only at hy);go_simp;try with_reducible rfl)
     try simp only[Act.put,uj,um,ul]
     refine ak (i:=9) (v:=?vv7) rfl (by kernel_rfl) (fun _ _ _ h=>h) rfl hS ?hy7 ?rest7
     case hy7=>(intro wy hy;(try dsimp only at hy);go_simp;try with_reducible rfl)
     try simp only[Act.put,uj,um,ul]
     refine ak (i:=10) (v:=?vv8) rfl (by kernel_rfl) (fun _ _ _ h=>h) rfl hS ?hy8 ?rest8
     case hy8=>(intro wy hy;(try dsimp only at hy);go_simp;try with_reducible rfl)
     try simp only[Act.put,uj,um,ul]
     refine an (i:=4) rfl (by kernel_rfl) rfl (fun K hK=>?_)
     go_simp
     refine (fY g.name _ cq g.rungs r.next _ (HRR.out.below SC.bl) (by omega)).mono ?_
     rintro e w4 ⟨z6,rfl,hz6,hb4⟩
     have SD:=SC.below hb4
     clear hb4
     refine hK _ _ (fun _ _=>HSC.out _ SD.has) ?_
     clear hK K
     try simp only[Act.put,uj,um,ul]
     refine an (i:=5) rfl (by kernel_rfl) rfl (fun K hK=>?_)
     go_simp
     have SE:=SD.below ((Below.refl _ _).alloc (uo _) (.cells #[.int .i64 z6] 3))
     refine hK _ _ (fun _ _=>HSC.out _ SE.has) ?_
     clear hK K
     try simp only[Act.put,uj,um,ul]
     refine an (i:=6) rfl (by kernel_rfl) rfl (fun K hK=>?_)
     refine ky _ _ rfl 0 _ l6 rfl SE.r6 (by omega) (vi _) w4.heap.size z6 rfl (af w4 #[.int .i64 z6] 3 0 _ rfl) ?_
     intro v6 w6 hr hg ha hshv6
     have SF:=SE.app6 hg hr ha
     clear hr hg ha
     refine hK _ _ (fun _ _=>HSC.out _ SF.has) ?_
     clear hK K
     try simp only[Act.put,uj,um,ul]
     refine an (i:=11) rfl (by kernel_rfl) rfl (fun K hK=>?_)
     go_simp
     refine (fY g.name _ cq g.rungs r.back _ (HRR.out.below SF.bl) (by omega)).mono ?_
     rintro e w7 ⟨z7,rfl,hz7,hb4⟩
     have SG:=SF.below hb4
     clear hb4
     refine hK _ _ (fun _ _=>HSC.out _ SG.has) ?_
     clear hK K
     try simp only[Act.put,uj,um,ul]
     refine an (i:=12) rfl (by kernel_rfl) rfl (fun K hK=>?_)
     go_simp
     have SH:=SG.below ((Below.refl _ _).alloc (uo _) (.cells #[.int .i64 z7] 3))
     refine hK _ _ (fun _ _=>HSC.out _ SH.has) ?_
     clear hK K
     try simp only[Act.put,uj,um,ul]
     refine an (i:=13) rfl (by kernel_rfl) rfl (fun K hK=>?_)
     refine ky _ _ rfl 0 _ l7 rfl SH.r7 (by omega) (vi _) w7.heap.size z7 rfl (af w7 #[.int .i64 z7] 3 0 _ rfl) ?_
     intro v7 w8 hr hg ha hshv7
     have SI:=SH.app7 hg hr ha
     clear hr hg ha
     refine hK _ _ (fun _ _=>HSC.out _ SI.has) ?_
     clear hK K
     try simp only[Act.put,uj,um,ul]
     have hS:=HSC.out _ SI.has
     refine ak (i:=14) (v:=?vv9) rfl (by kernel_rfl) (fun _ _ _ h=>h) rfl hS ?hy9 ?rest9
     case hy9=>(intro wy hy;(try dsimp only at hy);go_simp;try with_reducible rfl)
     try simp only[Act.put,uj,um,ul]
     refine ak (i:=15) (v:=?vv10) rfl (by kernel_rfl) (fun _ _ _ h=>h) rfl hS ?hy10 ?rest10
     case hy10=>(intro wy hy;(try dsimp only at hy);go_simp;try with_reducible rfl)
     try simp only[Act.put,uj,um,ul]
     refine aW (by kernel_rfl) ?_ _
     clear HSC hS SH SG SF SE SD SC SB
     have HRG:=uk (show aP gs i k=r by unfold aP;rw[HRA.out,uu hkl,HRE.out])
     have HNF:=uk (lW HS.out hil (show k<(ac gs i).length by rw[HRA.out];exact hkl))
     rw[HRG.out] at HNF
     have hnl3:=HNF.out.1
     have d5:=aa SI.has.2 5
     go_wp2_with fail
     go_loopw [53,10] (fun s53 s10 wx=>∃ (j:Nat) (L:List (Nat×List Int×Value)),s53=.int .i64 j∧j≤r.needs.length∧cz w8.heap.size wx s10 L∧Below w8.heap.size w8 wx∧Hid (L.map ew=(r.needs.take j).map (gS gs))) (fun s53 _ _=>r.needs.length-(intOf s53).toNat)
     case atStart=>exact⟨0,[],rfl,by omega,⟨⟨rfl,Or.inl ⟨rfl,rfl⟩⟩,fun t ht=>(by cases ht)⟩,Below.refl _ _,rfl⟩
     case round =>
      clear d5
      obtain⟨j,L,rfl,hj,hL,hB,hx⟩:=hrel
      by_cases hjl:j<r.needs.length
      ·obtain⟨nb,no,rfl,hnb,hnc⟩:=HNP.out.at_ (by omega)
       obtain⟨qn,cn,m0',m1',hWn⟩:=hnc j hjl
       obtain⟨hn0,hn1,hn8⟩:=HNF.out.2 j hjl
       obtain⟨nd,hnd⟩:∃ nd,nd=r.needs[j]:=⟨_,rfl⟩
       rw[←hnd] at m0' m1' hWn hn0 hn1 hn8
       obtain⟨ng,hng⟩:∃ ng:Nat,nd.guard=ng:=⟨nd.guard.toNat,by omega⟩
       rw[hng] at m0' hn0 hn1
       have HND:=uk hnd
       have HNG:=uk hng
       have hngl:ng<gs.length:=by omega
       have hngI:(ng:Int)<(gs.length:Int):=by omega
       have hB1:Below w1.heap.size w1 wr:=SI.bl.trans (hB.mono SI.bl.size)
       have m0:=(hB1.cell (p:=⟨nb,_,none⟩) hnb).trans m0'
       have m1:=(hB1.cell (p:=⟨nb,_,none⟩) hnb).trans m1'
       obtain⟨q',cq',x0',x1',hR'⟩:=HCG.out ng hngl
       obtain⟨g',hge'⟩:∃ g',g'=gs[ng]:=⟨_,rfl⟩
       rw[←hge'] at x0' x1' hR'
       have HRA':=uk (show ac gs ng=g'.rungs by unfold ac;rw[uu hngl,hge'])
       have h8':=(bD (aX HS.out hngl)).2
       rw[HRA'.out] at h8'
       have HR':=uk hR'
       have HWN:=uk hWn
       clear hnd hng hnc hge' hR' hWn m0' m1'
       have hbX:Below wr.heap.size wr ((wr.alloc (.cells #[.int .i64 ng,.slice qn nd.rungs.length cn] 75)).alloc (.cells #[.int .i64 ng,.slice none 0 0] 117)):=((Below.refl _ _).alloc (uo _) _).alloc (by simp) _
       have z12:((wr.alloc (.cells #[.int .i64 ng,.slice qn nd.rungs.length cn] 75)).alloc (.cells #[.int .i64 ng,.slice none 0 0] 117)).heap.size=wr.heap.size+1+1:=by simp
       have y0:((wr.alloc (.cells #[.int .i64 ng,.slice qn nd.rungs.length cn] 75)).alloc (.cells #[.int .i64 ng,.slice none 0 0] 117)).heap[wr.heap.size]?=some (.cells #[.int .i64 ng,.slice qn nd.rungs.length cn] 75 (0,0)):=by
        exact (((Below.refl (wr.alloc (.cells #[.int .i64 ng,.slice qn nd.rungs.length cn] 75)).heap.size (wr.alloc (.cells #[.int .i64 ng,.slice qn nd.rungs.length cn] 75))).alloc (uo _) (.cells #[.int .i64 ng,.slice none 0 0] 117)).block wr.heap.size (by simp)).trans (heap_alloc_new wr _)
       have y1:((wr.alloc (.cells #[.int .i64 ng,.slice qn nd.rungs.length cn] 75)).alloc (.cells #[.int .i64 ng,.slice none 0 0] 117)).heap[wr.heap.size+1]?=some (.cells #[.int .i64 ng,.slice none 0 0] 117 (0,0)):=by
        have:=heap_alloc_new (wr.alloc (.cells #[.int .i64 ng,.slice qn nd.rungs.length cn] 75)) (.cells #[.int .i64 ng,.slice none 0 0] 117)
        rw[show (wr.alloc (.cells #[.int .i64 ng,.slice qn nd.rungs.length cn] 75)).heap.size=wr.heap.size+1 by simp] at this
        exact this
       have c1:=aa y0 1
       have hwr1:w1.heap.size≤wr.heap.size:=hB1.size
       have hwr8:w8.heap.size≤wr.heap.size:=hB.size
       go_wp2_with fail
       generalize (wr.alloc (.cells #[.int .i64 ng,.slice qn nd.rungs.length cn] 75)).alloc (.cells #[.int .i64 ng,.slice none 0 0] 117)=w5 at hbX z12 y0 y1 c1 ⊢
       have X0:XSt w5 w5 (wr.heap.size+1) ng cL cL []:=⟨by omega,⟨rfl,rfl,rfl,uo _,fun _ _ _=>rfl⟩,y1,⟨rfl,Or.inl ⟨rfl,rfl⟩⟩⟩
       have HLX:=uk (show ∀ wy:World,(∀ k,k<wr.heap.size→wy.heap[k]?=w5.heap[k]?)→cz w8.heap.size wy u10 L from fun wy h=>hL.near (fun k h1 h2=>(h k h2).trans (hbX.block k h2)))
       have hB8:Below w8.heap.size w8 w5:=hB.trans (hbX.mono hB.size)
       have hB15:Below w1.heap.size w1 w5:=hB1.trans (hbX.mono hB1.size)
       have hLl:L.length=j:=by have:=congrArg List.length hx.out;simpa[vl hj] using this
       generalize hb12:wr.heap.size=b12 at *
       clear hL hB hB1 m0 m1 y1 c1 hbX hb12
       go_loopw [63] (fun s63 wx=>∃ (m:Nat) (vx:Value) (lx:List Int),s63=.int .i64 m∧m≤nd.rungs.length∧XSt w5 wx (b12+1) ng vx vx lx∧Hid (lx=(nd.rungs.take m).map (fun s=>aD (ac gs ng) s.data.toList))) (fun s63 _=>nd.rungs.length-(intOf s63).toNat)
       case atStart=>exact⟨0,cL,[],rfl,by omega,X0,rfl⟩
       case round =>
        clear X0
        obtain⟨m,vx,lx,rfl,hm,X,hlx⟩:=hrel
        have hBx:Below w1.heap.size w1 wr:=hB15.grown X.gb hB15.size (fun k e=>by cases e;omega)
        have hlxl:lx.length=m:=by rw[hlx.out];simp;omega
        by_cases hml:m<nd.rungs.length
        ·obtain⟨wb',wo,rfl,hwb,hwc⟩:=HWN.out.at_ (by omega)
         have n0':=hwc m hml
         obtain⟨nm,hnm⟩:∃ nm,nm=nd.rungs[m]:=⟨_,rfl⟩
         rw[←hnm] at n0'
         have HNM:=uk hnm
         have n0:=(hBx.cell (p:=⟨wb',_,none⟩) hwb).trans n0'
         clear hnm hwc n0'
         have hw15:w1.heap.size≤w5.heap.size:=hB15.size
         have HSC:=uk (show ∀ wy,Below w5.heap.size wr wy→(fun wy:World=>wy.cell? ⟨b12+1,1,none⟩=some vx∧wy.cell? ⟨w.heap.size,0,none⟩=some (.slice (some ⟨bg,og,none⟩) gs.length c)∧wy.cell? ⟨b12,0,none⟩=some (.int .i64 ng)∧wy.cell? ⟨bg,og+ng*2,none⟩=some (.string g'.name)∧wy.cell? ⟨bg,og+ng*2+1,none⟩=some (.slice q' g'.rungs.length cq')) wy from fun wy hb=>⟨(hb.cell (p:=⟨b12+1,1,none⟩) X.lt).trans (aa X.xb 1),(hb.cell (p:=⟨w.heap.size,0,none⟩) (by show w.heap.size<_;omega)).trans ((hBx.cell (p:=⟨w.heap.size,0,none⟩) (by show w.heap.size<_;omega)).trans s0),(hb.cell (p:=⟨b12,0,none⟩) (by show b12<_;omega)).trans ((X.cell (by omega) (by omega) 0).trans (aa y0 0)),(hb.cell (p:=⟨bg,_,none⟩) (by show bg<_;omega)).trans ((hBx.cell (p:=⟨bg,_,none⟩) hbg).trans x0'),(hb.cell (p:=⟨bg,_,none⟩) (by show bg<_;omega)).trans ((hBx.cell (p:=⟨bg,_,none⟩) hbg).trans x1')⟩)
         have XD:=X.below (below_drewN (Below.refl _ _) 1)
         change XSt w5 wr.drew _ _ _ _ _ at XD
         have hbD:Below w5.heap.size wr wr.drew:=below_drewN (Below.refl _ _) 1
         have HB1D:=uk (hBx.trans (hbD.mono hw15))
         go_wp2_with fail
         refine ax (fun wy:World=>wy.cell? ⟨b12+1,1,none⟩=some vx∧wy.cell? ⟨w.heap.size,0,none⟩=some (.slice (some ⟨bg,og,none⟩) gs.length c)∧wy.cell? ⟨b12,0,none⟩=some (.int .i64 ng)∧wy.cell? ⟨bg,og+ng*2,none⟩=some (.string g'.name)∧wy.cell? ⟨bg,og+ng*2+1,none⟩=some (.slice q' g'.rungs.length cq')) (fun i=>Nat.beq i 13) (by kernel_rfl) ?_
         generalize wr.drew=wc at XD hbD HB1D ⊢
         have hS:=HSC.out _ hbD
         clear n0
         refine ak (i:=0) (v:=?vv11) rfl (by kernel_rfl) (fun _ _ _ h=>h) rfl hS ?hy11 ?rest11
         case hy11=>(intro wy hy;(try dsimp only at hy);go_simp;try with_reducible rfl)
         try simp only[Act.put,uj,um,ul]
         refine ak (i:=1) (v:=?vv12) rfl (by kernel_rfl) (fun _ _ _ h=>h) rfl hS ?hy12 ?rest12
         case hy12=>(intro wy hy;(try dsimp only at hy);go_simp;try with_reducible rfl)
         try simp only[Act.put,uj,um,ul]
         refine ak (i:=2) (v:=?vv13) rfl (by kernel_rfl) (fun _ _ _ h=>h) rfl hS ?hy13 ?rest13
         case hy13=>(intro wy hy;(try dsimp only at hy);go_simp;try with_reducible rfl)
         try simp only[Act.put,uj,um,ul]
         refine ak (i:=3) (v:=?vv14) rfl (by kernel_rfl) (fun _ _ _ h=>h) rfl hS ?hy14 ?rest14
         case hy14=>(intro wy hy;(try dsimp only at hy);go_simp;try with_reducible rfl)
         try simp only[Act.put,uj,um,ul]
         refine ak (i:=4) (v:=?vv15) rfl (by kernel_rfl) (fun _ _ _ h=>h) rfl hS ?hy15 ?rest15
         case hy15=>(intro wy hy;(try dsimp only at hy);go_simp;try with_reducible rfl)
         try simp only[Act.put,uj,um,ul]
         refine ak (i:=5) (v:=?vv16) rfl (by kernel_rfl) (fun _ _ _ h=>h) rfl hS ?hy16 ?rest16
         case hy16=>(intro wy hy;(try dsimp only at hy);go_simp;try with_reducible rfl)
         try simp only[Act.put,uj,um,ul]
         refine ak (i:=6) (v:=?vv17) rfl (by kernel_rfl) (fun _ _ _ h=>h) rfl hS ?hy17 ?rest17
         case hy17=>(intro wy hy;(try dsimp only at hy);go_simp;try with_reducible rfl)
         try simp only[Act.put,uj,um,ul]
         refine ak (i:=7) (v:=?vv18) rfl (by kernel_rfl) (fun _ _ _ h=>h) rfl hS ?hy18 ?rest18
         case hy18=>(intro wy hy;(try dsimp only at hy);go_simp;try with_reducible rfl)
         try simp only[Act.put,uj,um,ul]
         refine ak (i:=8) (v:=?vv19) rfl (by kernel_rfl) (fun _ _ _ h=>h) rfl hS ?hy19 ?rest19
         case hy19=>(intro wy hy;(try dsimp only at hy);go_simp;try with_reducible rfl)
         try simp only[Act.put,uj,um,ul]
         refine an (i:=9) rfl (by kernel_rfl) rfl (fun K hK=>?_)
         go_simp
         refine (fY g'.name q' cq' g'.rungs nm _ (HR'.out.below HB1D.out) (by omega)).mono ?_
         rintro e w11 ⟨z,rfl,hz,hb4⟩
         have XE:=XD.below hb4
         have hbE:=hbD.trans (hb4.mono XD.gb.size)
         clear hS hb4 XD hbD
         refine hK _ _ (fun _ _=>HSC.out _ hbE) ?_
         clear hK K
         try simp only[Act.put,uj,um,ul]
         refine an (i:=10) rfl (by kernel_rfl) rfl (fun K hK=>?_)
         go_simp
         have hbA:=(Below.refl w11.heap.size w11).alloc (uo _) (.cells #[.int .i64 z] 3)
         have XF:=XE.below hbA
         have hbF:=hbE.trans (hbA.mono XE.gb.size)
         clear hbA
         refine hK _ _ (fun _ _=>HSC.out _ hbF) ?_
         clear hK K
         try simp only[Act.put,uj,um,ul]
         refine an (i:=11) rfl (by kernel_rfl) rfl (fun K hK=>?_)
         refine ky _ _ rfl w5.heap.size _ lx rfl XF.ir (by omega) XF.gb.size w11.heap.size z rfl (af w11 #[.int .i64 z] 3 0 _ rfl) ?_
         intro vy w12 hr hg ha hsh
         obtain⟨gy,cy,rfl⟩:=hsh
         have XG:=XF.app hg hr
         have hbG:=hbF.grown hg XF.gb.size (fun k e=>(ap XF.ir e).1)
         clear XE hbE XF hbF hr hg ha
         refine hK _ _ (fun _ _=>HSC.out _ hbG) ?_
         clear hK K
         try simp only[Act.put,uj,um,ul]
         have hS:=HSC.out _ hbG
         refine ak (i:=12) (v:=?vv20) rfl (by kernel_rfl) (fun _ _ _ h=>h) rfl hS ?hy20 ?rest20
         case hy20=>(intro wy hy;(try dsimp only at hy);go_simp;try with_reducible rfl)
         try simp only[Act.put,uj,um,ul]
         have k1:=aa XG.xb 1
         have f1:=XG.fr 1
         clear hS
         refine an (i:=13) rfl (by kernel_rfl) rfl (fun K hK=>?_)
         go_simp
         have XH:=XG.store
         rw[show (lx++[z]).length=m+1 by simp[hlxl]] at XH
         refine hK _ _ (fun h=>by cases h) ?_
         clear hK K
         refine aW (by kernel_rfl) ?_ _
         clear XG hbG k1 f1 HSC HB1D
         go_wp2
         go_roundw
         case rel=>exact⟨m+1,_,lx++[z],by go_num,by omega,XH,by unfold Hid;rw[hlx.out,uO,uu hml,uZ,←HNM.out,HRA'.out,←hz.out];rfl⟩
         case measure=>simp[intOf];omega
        ·obtain rfl:m=nd.rungs.length:=by omega
         have q0:=aa X.xb 0
         have q1':=aa X.xb 1
         have hLx:=HLX.out wr (fun k hk=>X.gb.block k (by omega) (fun e=>by cases e;omega))
         have hbA:=(Below.refl wr.heap.size wr).alloc (uo _) (.cells #[.int .i64 ng,vx] 117)
         have hLa:=hLx.near (fun k _ h=>hbA.block k h)
         have hia:=X.ir.same (fun k hk=>hbA.block k (ap X.ir hk).2.1)
         have hib:=hia.base (show w8.heap.size≤w5.heap.size from hB8.size)
         have ca0:=af wr #[.int .i64 ng,vx] 117 0 _ rfl
         have ca1:=af wr #[.int .i64 ng,vx] 117 1 _ rfl
         have hvx:=X.ir.one
         have hB8x:Below w8.heap.size w8 (wr.alloc (.cells #[.int .i64 ng,vx] 117)):=(hB8.grown X.gb hB8.size (fun k e=>by cases e;omega)).trans (hbA.mono (uB hB8.size X.gb.size))
         have hq8:w8.heap.size≤(wr.alloc (.cells #[.int .i64 ng,vx] 117)).heap.size:=hB8x.size
         have HQ:=uk (show (L++[(ng,lx,vx)]).map ew=(r.needs.take (j+1)).map (gS gs) by
          rw[uZ,hx.out,uO,uu hjl,uZ,←HND.out]
          congr 1
          show [(ng,lx)]=[gS gs nd]
          unfold gS
          rw[HNG.out,hlx.out,uX];rfl)
         obtain⟨pv,cv,ev,-⟩:=hib.q.at_
         subst ev
         clear hlxl
         go_upto_region 20 with fail
         refine wp_region_lit ?_
         refine wpList_plain rfl (fun K hK=>?_)
         go_simp
         refine hK _ _ ?_
         clear hK K
         try simp only[Act.put,uj,um,ul]
         refine wpList_plain rfl (fun K hK=>?_)
         go_simp
         refine hK _ _ ?_
         clear hK K
         try simp only[Act.put,uj,um,ul]
         refine wpList_plain rfl (fun K hK=>?_)
         go_simp
         refine hK _ _ ?_
         clear hK K
         try simp only[Act.put,uj,um,ul]
         refine pS rfl _ _ rfl w8.heap.size _ L rfl hLa (by omega) hq8 wr.heap.size (ng,lx,_) rfl ca0 ca1 hvx hib ?_
         intro v10 w9 hL9 hg9 hsh9
         have hB9:=hB8x.grown hg9 hq8 (fun k e=>(ap hLa.row e).1)
         try simp only[Act.put,uj,um,ul]
         clear hLx hbA hLa hia hib ca0 ca1 hvx hB8x hq8 X HLX q0 q1'
         go_wp2
         go_roundw
         case rel=>exact⟨j+1,_,by go_num,by omega,hL9,hB9,HQ⟩
         case measure=>simp[intOf];omega
      ·obtain rfl:j=r.needs.length:=by omega
       have SJ:=SI.below hB
       have k3:=aa SJ.blk 3
       have hLf:ec [some (w.heap.size+1+1),some (w.heap.size+1),vmn.ownBlock,vmb.ownBlock,v6.ownBlock,v7.ownBlock] wr (fun w=>cz 0 w u10 L):=hL.free (fun x hx k e=>SI.old x hx k e)
       have HQ:=uk (show L.map ew=(ad gs).needs i k by
        show _=(aP gs i k).needs.map (gS gs)
        rw[HRG.out,hx.out,uX])
       have hNb:=DK.hN
       go_wp2_with (at_mapUpdate;refine kX _ rfl _ _ _ 93 rfl 42 115 _ _ _ _ encP mu rfl SJ.map (by unfold maxLen;omega) (i,k) ⟨by show i<1000;omega,by show k<1000;omega⟩ _ rfl rfl ?_;intro w9 hm9 hg9)
       have SK:=(SJ.put hLf HQ.out hg9 hm9).less (E':=EG b5 g (some ⟨b,o,none⟩) cq) (fun w h=>h.1)
       have KK:=DK.step (z6:=z6) (z7:=z7) (by show aD (ac gs i) (aP gs i k).next.data.toList=z6;rw[HRG.out,HRA.out];exact hz6.out) (by show aD (ac gs i) (aP gs i k).back.data.toList=z7;rw[HRG.out,HRA.out];exact hz7.out)
       clear SJ SI hLf hm9 hg9 k3 hL hB hx
       go_roundw
       case rel=>exact⟨k+1,_,_,_,_,_,_,by go_num,by omega,SK,KK⟩
       case measure=>simp[intOf];omega
    ·obtain rfl:k=g.rungs.length:=by omega
     obtain⟨p6,c6,e6,-⟩:=S.r6.q.at_
     obtain⟨p7,c7,e7,-⟩:=S.r7.q.at_
     have o6:=S.r6.one
     have o7:=S.r7.one
     have SR:=S.calm.retire
     have hln:Ln.length=i:=by have:=congrArg List.length D.hn;simpa using this
     have hlb:Lb.length=i:=by have:=congrArg List.length D.hb;simpa using this
     have HFIN:=uk (DK.close (by rw[HRA.out]) h8 D u6 u7)
     have T0:=SR.below (below_drewN (Below.refl _ _) 1)
     change aL w1 wr.drew _ _ _ _ _ _ _ _ _ _ _ _ _ _ _ _ _ _ _ _ at T0
     subst e6
     subst e7
     have hlN:(Ln++[(l6,(Value.slice p6 l6.length c6))]).length=i+1:=by simp[hln]
     have hlB:(Lb++[(l7,(Value.slice p7 l7.length c7))]).length=i+1:=by simp[hlb]
     clear S SR DK hk hkl
     go_wp2_with fail
     refine ax (fun wy:World=>wy.cell? ⟨w.heap.size+1+1,1,none⟩=some vmn∧wy.cell? ⟨w.heap.size+1+1,2,none⟩=some vmb) (fun i=>Nat.beq i 18||Nat.beq i 21) (by kernel_rfl) ?_
     generalize wr.drew=wd at T0 ⊢
     have hS:(fun wy:World=>wy.cell? ⟨w.heap.size+1+1,1,none⟩=some vmn∧wy.cell? ⟨w.heap.size+1+1,2,none⟩=some vmb) wd:=⟨aa T0.blk 1,aa T0.blk 2⟩
     refine ae (i:=0) (v:=?vv21) rfl (by kernel_rfl) (fun _ _ _ h=>h) rfl ?hy21 ?rest21
     case hy21=>(intro wy;go_simp;try with_reducible rfl)
     try simp only[Act.put,uj,um,ul]
     refine ae (i:=1) (v:=?vv22) rfl (by kernel_rfl) (fun _ _ _ h=>h) rfl ?hy22 ?rest22
     case hy22=>(intro wy;go_simp;try with_reducible rfl)
     try simp only[Act.put,uj,um,ul]
     refine ae (i:=2) (v:=?vv23) rfl (by kernel_rfl) (fun _ _ _ h=>h) rfl ?hy23 ?rest23
     case hy23=>(intro wy;go_simp;try with_reducible rfl)
     try simp only[Act.put,uj,um,ul]
     refine ae (i:=3) (v:=?vv24) rfl (by kernel_rfl) (fun _ _ _ h=>h) rfl ?hy24 ?rest24
     case hy24=>(intro wy;go_simp;try with_reducible rfl)
     try simp only[Act.put,uj,um,ul]
     refine ae (i:=4) (v:=?vv25) rfl (by kernel_rfl) (fun _ _ _ h=>h) rfl ?hy25 ?rest25
     case hy25=>(intro wy;go_simp;try with_reducible rfl)
     try simp only[Act.put,uj,um,ul]
     refine ak (i:=5) (v:=?vv26) rfl (by kernel_rfl) (fun _ _ _ h=>h) rfl hS ?hy26 ?rest26
     case hy26=>(intro wy hy;(try dsimp only at hy);go_simp;try with_reducible rfl)
     try simp only[Act.put,uj,um,ul]
     refine ae (i:=6) (v:=?vv27) rfl (by kernel_rfl) (fun _ _ _ h=>h) rfl ?hy27 ?rest27
     case hy27=>(intro wy;go_simp;try with_reducible rfl)
     try simp only[Act.put,uj,um,ul]
     refine ae (i:=9) (v:=?vv28) rfl (by kernel_rfl) (fun _ _ _ h=>h) rfl ?hy28 ?rest28
     case hy28=>(intro wy;go_simp;try with_reducible rfl)
     try simp only[Act.put,uj,um,ul]
     refine ae (i:=10) (v:=?vv29) rfl (by kernel_rfl) (fun _ _ _ h=>h) rfl ?hy29 ?rest29
     case hy29=>(intro wy;go_simp;try with_reducible rfl)
     try simp only[Act.put,uj,um,ul]
     refine ae (i:=11) (v:=?vv30) rfl (by kernel_rfl) (fun _ _ _ h=>h) rfl ?hy30 ?rest30
     case hy30=>(intro wy;go_simp;try with_reducible rfl)
     try simp only[Act.put,uj,um,ul]
     refine ak (i:=12) (v:=?vv31) rfl (by kernel_rfl) (fun _ _ _ h=>h) rfl hS ?hy31 ?rest31
     case hy31=>(intro wy hy;(try dsimp only at hy);go_simp;try with_reducible rfl)
     try simp only[Act.put,uj,um,ul]
     refine ae (i:=13) (v:=?vv32) rfl (by kernel_rfl) (fun _ _ _ h=>h) rfl ?hy32 ?rest32
     case hy32=>(intro wy;go_simp;try with_reducible rfl)
     try simp only[Act.put,uj,um,ul]
     clear hS
     refine kV (i:=7) (i':=14) rfl rfl (by kernel_rfl) rfl rfl (fun K hK=>?_) (fun K hK=>?_)
     ·go_simp
      have T1:=T0.lay (.cells #[(Value.slice p6 l6.length c6)] 34)
      refine hK _ _ (fun _ _=>⟨aa T1.blk 1,aa T1.blk 2⟩) ?_
      clear hK K
      try simp only[Act.put,uj,um,ul]
      generalize wd.alloc (.cells #[(Value.slice p6 l6.length c6)] 34)=we at T1 ⊢
      refine kV (i:=8) (i':=14) rfl rfl (by kernel_rfl) rfl rfl (fun K hK=>?_) (fun K hK=>?_)
      ·refine ft _ _ rfl _ Ln rfl T1.rn (by omega) wd.heap.size (l6,(Value.slice p6 l6.length c6)) rfl (aa T1.has.2 0) o6 ?_
       intro vz wf hr hg ha hsh
       obtain⟨gN,cN,rfl⟩:=hsh
       have T2:=T1.joinN (t:=(l6,(Value.slice p6 l6.length c6))) (fun w h=>h.1.1) hg hr ha
       clear hr hg ha
       rw[hlN] at T2 ⊢
       refine hK _ _ (fun _ _=>⟨aa T2.blk 1,aa T2.blk 2⟩) ?_
       clear hK K
       try simp only[Act.put,uj,um,ul]
       refine an (i:=14) rfl (by kernel_rfl) rfl (fun K hK=>?_)
       go_simp
       have T3:=T2.lay (.cells #[(Value.slice p7 l7.length c7)] 34)
       refine hK _ _ (fun _ _=>⟨aa T3.blk 1,aa T3.blk 2⟩) ?_
       clear hK K
       try simp only[Act.put,uj,um,ul]
       generalize wf.alloc (.cells #[(Value.slice p7 l7.length c7)] 34)=wg at T3 ⊢
       refine an (i:=15) rfl (by kernel_rfl) rfl (fun K hK=>?_)
       refine ft _ _ rfl _ Lb rfl T3.rb (by omega) wf.heap.size (l7,(Value.slice p7 l7.length c7)) rfl (aa T3.has.2 0) o7 ?_
       intro vz wh hr hg ha hsh
       obtain⟨gB,cB,rfl⟩:=hsh
       have T4:=T3.joinB (t:=(l7,(Value.slice p7 l7.length c7))) (fun w h=>h.1.1.2) hg hr ha
       clear hr hg ha
       rw[hlB] at T4 ⊢
       refine hK _ _ (fun _ _=>⟨aa T4.blk 1,aa T4.blk 2⟩) ?_
       clear hK K
       try simp only[Act.put,uj,um,ul]
       refine ae (i:=16) (v:=?vv33) rfl (by kernel_rfl) (fun _ _ _ h=>h) rfl ?hy33 ?rest33
       case hy33=>(intro wy;go_simp;try with_reducible rfl)
       try simp only[Act.put,uj,um,ul]
       refine ae (i:=17) (v:=?vv34) rfl (by kernel_rfl) (fun _ _ _ h=>h) rfl ?hy34 ?rest34
       case hy34=>(intro wy;go_simp;try with_reducible rfl)
       try simp only[Act.put,uj,um,ul]
       have k1:=aa T4.blk 1
       have f1:=T4.fr 1
       refine an (i:=18) rfl (by kernel_rfl) rfl (fun K hK=>?_)
       go_simp
       have U1:=T4.st1 (.slice (some ⟨gN,0,none⟩) (i+1) cN)
       refine hK _ _ (fun h=>by cases h) ?_
       clear hK K
       try simp only[Act.put,uj,um,ul]
       clear k1 f1
       generalize wh.setCell ⟨w.heap.size+1+1,1,none⟩ (.slice (some ⟨gN,0,none⟩) (i+1) cN)=wu at U1 ⊢
       refine ae (i:=19) (v:=?vv35) rfl (by kernel_rfl) (fun _ _ _ h=>h) rfl ?hy35 ?rest35
       case hy35=>(intro wy;go_simp;try with_reducible rfl)
       try simp only[Act.put,uj,um,ul]
       refine ae (i:=20) (v:=?vv36) rfl (by kernel_rfl) (fun _ _ _ h=>h) rfl ?hy36 ?rest36
       case hy36=>(intro wy;go_simp;try with_reducible rfl)
       try simp only[Act.put,uj,um,ul]
       have k2:=aa U1.blk 2
       have f2:=U1.fr 2
       refine an (i:=21) rfl (by kernel_rfl) rfl (fun K hK=>?_)
       go_simp
       have U2:=(U1.st2 (.slice (some ⟨gB,0,none⟩) (i+1) cB)).calm
       refine hK _ _ (fun h=>by cases h) ?_
       clear hK K
       try simp only[Act.put,uj,um,ul]
       refine aW (by kernel_rfl) ?_ _
       clear k2 f2 U1 T4
       go_wp2
       go_roundw
       case rel=>exact⟨i+1,_,_,_,_,_,_,_,_,by go_num,by omega,U2,HFIN.out⟩
       case measure=>simp[intOf];omega
      ·go_simp
       have T2:=T1.lay (.cells #[(Value.slice p7 l7.length c7)] 34)
       refine hK _ _ (fun _ _=>⟨aa T2.blk 1,aa T2.blk 2⟩) ?_
       clear hK K
       try simp only[Act.put,uj,um,ul]
       generalize we.alloc (.cells #[(Value.slice p7 l7.length c7)] 34)=wf at T2 ⊢
       refine an (i:=8) rfl (by kernel_rfl) rfl (fun K hK=>?_)
       refine ft _ _ rfl _ Ln rfl T2.rn (by omega) wd.heap.size (l6,(Value.slice p6 l6.length c6)) rfl (aa T2.has.1.2 0) o6 ?_
       intro vz wg hr hg ha hsh
       obtain⟨gN,cN,rfl⟩:=hsh
       have T3:=T2.joinN (t:=(l6,(Value.slice p6 l6.length c6))) (fun w h=>h.1.1.1) hg hr ha
       clear hr hg ha
       rw[hlN] at T3 ⊢
       refine hK _ _ (fun _ _=>⟨aa T3.blk 1,aa T3.blk 2⟩) ?_
       clear hK K
       try simp only[Act.put,uj,um,ul]
       refine an (i:=15) rfl (by kernel_rfl) rfl (fun K hK=>?_)
       refine ft _ _ rfl _ Lb rfl T3.rb (by omega) we.heap.size (l7,(Value.slice p7 l7.length c7)) rfl (aa T3.has.2 0) o7 ?_
       intro vz wh hr hg ha hsh
       obtain⟨gB,cB,rfl⟩:=hsh
       have T4:=T3.joinB (t:=(l7,(Value.slice p7 l7.length c7))) (fun w h=>h.1.1.2) hg hr ha
       clear hr hg ha
       rw[hlB] at T4 ⊢
       refine hK _ _ (fun _ _=>⟨aa T4.blk 1,aa T4.blk 2⟩) ?_
       clear hK K
       try simp only[Act.put,uj,um,ul]
       refine ae (i:=16) (v:=?vv37) rfl (by kernel_rfl) (fun _ _ _ h=>h) rfl ?hy37 ?rest37
       case hy37=>(intro wy;go_simp;try with_reducible rfl)
       try simp only[Act.put,uj,um,ul]
       refine ae (i:=17) (v:=?vv38) rfl (by kernel_rfl) (fun _ _ _ h=>h) rfl ?hy38 ?rest38
       case hy38=>(intro wy;go_simp;try with_reducible rfl)
       try simp only[Act.put,uj,um,ul]
       have k1:=aa T4.blk 1
       have f1:=T4.fr 1
       refine an (i:=18) rfl (by kernel_rfl) rfl (fun K hK=>?_)
       go_simp
       have U1:=T4.st1 (.slice (some ⟨gN,0,none⟩) (i+1) cN)
       refine hK _ _ (fun h=>by cases h) ?_
       clear hK K
       try simp only[Act.put,uj,um,ul]
       clear k1 f1
       generalize wh.setCell ⟨w.heap.size+1+1,1,none⟩ (.slice (some ⟨gN,0,none⟩) (i+1) cN)=wu at U1 ⊢
       refine ae (i:=19) (v:=?vv39) rfl (by kernel_rfl) (fun _ _ _ h=>h) rfl ?hy39 ?rest39
       case hy39=>(intro wy;go_simp;try with_reducible rfl)
       try simp only[Act.put,uj,um,ul]
       refine ae (i:=20) (v:=?vv40) rfl (by kernel_rfl) (fun _ _ _ h=>h) rfl ?hy40 ?rest40
       case hy40=>(intro wy;go_simp;try with_reducible rfl)
       try simp only[Act.put,uj,um,ul]
       have k2:=aa U1.blk 2
       have f2:=U1.fr 2
       refine an (i:=21) rfl (by kernel_rfl) rfl (fun K hK=>?_)
       go_simp
       have U2:=(U1.st2 (.slice (some ⟨gB,0,none⟩) (i+1) cB)).calm
       refine hK _ _ (fun h=>by cases h) ?_
       clear hK K
       try simp only[Act.put,uj,um,ul]
       refine aW (by kernel_rfl) ?_ _
       clear k2 f2 U1 T4
       go_wp2
       go_roundw
       case rel=>exact⟨i+1,_,_,_,_,_,_,_,_,by go_num,by omega,U2,HFIN.out⟩
       case measure=>simp[intOf];omega
     ·go_simp
      have T1:=T0.lay (.cells #[(Value.slice p7 l7.length c7)] 34)
      refine hK _ _ (fun _ _=>⟨aa T1.blk 1,aa T1.blk 2⟩) ?_
      clear hK K
      try simp only[Act.put,uj,um,ul]
      generalize wd.alloc (.cells #[(Value.slice p7 l7.length c7)] 34)=we at T1 ⊢
      refine an (i:=7) rfl (by kernel_rfl) rfl (fun K hK=>?_)
      go_simp
      have T2:=T1.lay (.cells #[(Value.slice p6 l6.length c6)] 34)
      refine hK _ _ (fun _ _=>⟨aa T2.blk 1,aa T2.blk 2⟩) ?_
      clear hK K
      try simp only[Act.put,uj,um,ul]
      generalize we.alloc (.cells #[(Value.slice p6 l6.length c6)] 34)=wf at T2 ⊢
      refine an (i:=8) rfl (by kernel_rfl) rfl (fun K hK=>?_)
      refine ft _ _ rfl _ Ln rfl T2.rn (by omega) we.heap.size (l6,(Value.slice p6 l6.length c6)) rfl (aa T2.has.2 0) o6 ?_
      intro vz wg hr hg ha hsh
      obtain⟨gN,cN,rfl⟩:=hsh
      have T3:=T2.joinN (t:=(l6,(Value.slice p6 l6.length c6))) (fun w h=>h.1.1.1) hg hr ha
      clear hr hg ha
      rw[hlN] at T3 ⊢
      refine hK _ _ (fun _ _=>⟨aa T3.blk 1,aa T3.blk 2⟩) ?_
      clear hK K
      try simp only[Act.put,uj,um,ul]
      refine an (i:=15) rfl (by kernel_rfl) rfl (fun K hK=>?_)
      refine ft _ _ rfl _ Lb rfl T3.rb (by omega) wd.heap.size (l7,(Value.slice p7 l7.length c7)) rfl (aa T3.has.1.2 0) o7 ?_
      intro vz wh hr hg ha hsh
      obtain⟨gB,cB,rfl⟩:=hsh
      have T4:=T3.joinB (t:=(l7,(Value.slice p7 l7.length c7))) (fun w h=>h.1.1.2) hg hr ha
      clear hr hg ha
      rw[hlB] at T4 ⊢
      refine hK _ _ (fun _ _=>⟨aa T4.blk 1,aa T4.blk 2⟩) ?_
      clear hK K
      try simp only[Act.put,uj,um,ul]
      refine ae (i:=16) (v:=?vv41) rfl (by kernel_rfl) (fun _ _ _ h=>h) rfl ?hy41 ?rest41
      case hy41=>(intro wy;go_simp;try with_reducible rfl)
      try simp only[Act.put,uj,um,ul]
      refine ae (i:=17) (v:=?vv42) rfl (by kernel_rfl) (fun _ _ _ h=>h) rfl ?hy42 ?rest42
      case hy42=>(intro wy;go_simp;try with_reducible rfl)
      try simp only[Act.put,uj,um,ul]
      have k1:=aa T4.blk 1
      have f1:=T4.fr 1
      refine an (i:=18) rfl (by kernel_rfl) rfl (fun K hK=>?_)
      go_simp
      have U1:=T4.st1 (.slice (some ⟨gN,0,none⟩) (i+1) cN)
      refine hK _ _ (fun h=>by cases h) ?_
      clear hK K
      try simp only[Act.put,uj,um,ul]
      clear k1 f1
      generalize wh.setCell ⟨w.heap.size+1+1,1,none⟩ (.slice (some ⟨gN,0,none⟩) (i+1) cN)=wu at U1 ⊢
      refine ae (i:=19) (v:=?vv43) rfl (by kernel_rfl) (fun _ _ _ h=>h) rfl ?hy43 ?rest43
      case hy43=>(intro wy;go_simp;try with_reducible rfl)
      try simp only[Act.put,uj,um,ul]
      refine ae (i:=20) (v:=?vv44) rfl (by kernel_rfl) (fun _ _ _ h=>h) rfl ?hy44 ?rest44
      case hy44=>(intro wy;go_simp;try with_reducible rfl)
      try simp only[Act.put,uj,um,ul]
      have k2:=aa U1.blk 2
      have f2:=U1.fr 2
      refine an (i:=21) rfl (by kernel_rfl) rfl (fun K hK=>?_)
      go_simp
      have U2:=(U1.st2 (.slice (some ⟨gB,0,none⟩) (i+1) cB)).calm
      refine hK _ _ (fun h=>by cases h) ?_
      clear hK K
      try simp only[Act.put,uj,um,ul]
      refine aW (by kernel_rfl) ?_ _
      clear k2 f2 U1 T4
      go_wp2
      go_roundw
      case rel=>exact⟨i+1,_,_,_,_,_,_,_,_,by go_num,by omega,U2,HFIN.out⟩
      case measure=>simp[intOf];omega
  ·obtain rfl:i=gs.length:=by omega
   have HM:=uk (S.machP (i:=0) HG1.out D.hn D.hb D.hd)
   have HZ:=uk (S.machZ D.hn D.hb D.hd)
   have HB:=uk (hb1.trans (S.bl.mono hb1.size))
   clear S D hi hil
   go_wp2
   go_ret
   exact⟨_,_,_,_,_,_,_,rfl,HM.out,HZ.out,HB.out⟩
theorem ki (gs:List Gd) (p:Option Addr) (c:Nat) (w:World) (hG:aQ w p gs) (hS:aS gs=true) :
  Calls Tryz.prog 21 #[.agg #[.slice p gs.length c]] w (fun e w'=>∃ (mB:Nat) (vn vb:Value) (mb N s:Nat) (f:Nat×Nat→Option Value),e=.returned (.pointer (some ⟨mB,0,none⟩))∧bZ w' mB gs p c vn vb mb N s f∧Below w.heap.size w w'):=by
 refine (sU gs p c w hG hS).mono ?_
 rintro e w' ⟨mB,vn,vb,mb,N,s,f,h1,h2,_,h3⟩
 exact⟨mB,vn,vb,mb,N,s,f,h1,h2,h3⟩
end Go.Proofs.YtlkniohhalnjjaaGreatDoor
