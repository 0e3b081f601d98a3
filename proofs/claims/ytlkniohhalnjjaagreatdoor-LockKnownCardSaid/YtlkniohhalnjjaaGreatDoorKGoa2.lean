/- Lemmas of this claim. -/
import Derived.Test.YtlkniohhalnjjaaGreatDoorKHel1
set_option linter.all false
set_option maxRecDepth 100000
set_option maxHeartbeats 8000000
namespace Go.Proofs.YtlkniohhalnjjaaGreatDoor
open Go.RowKit Dc Dg
theorem mE.two {gs:List Gd}{p:Option Addr}{c:Nat}{al fl:List Int}{w w':World}{e:Ending} (h:mE gs p c al fl w e w') :
  ∃ (pm:Option Addr) (y:St) (n:Int),e=.returned (.tuple #[.pointer pm,.agg #[.int .i64 y.a0,.int .i64 y.a1,.int .i64 y.a2,.int .i64 y.f0,.int .i64 y.f1,.int .i64 y.f2],.int .i64 n]) ∧
   ((n≠0∧mD gs al fl n)∨(n=0∧aS gs=true∧cA gs al fl y∧∃ (m:Nat) (vn vb:Value) (mb N s:Nat) (f:Nat×Nat→Option Value),pm=some ⟨m,0,none⟩∧bZ w' m gs p c vn vb mb N s f))∧Below w.heap.size w w':=by
 obtain⟨hb,⟨n,hn,rfl⟩ | ⟨y,m,vn,vb,mb,N,s,f,hS,hk,hM,rfl⟩⟩:=h
 ·refine⟨_,St.zero,n,rfl,Or.inl ⟨?_,hn⟩,hb⟩
  rcases hn with ⟨_,rfl⟩ | ⟨_,rfl,_⟩<;>decide
 ·exact⟨_,y,0,rfl,Or.inr ⟨rfl,hS,hk,m,vn,vb,mb,N,s,f,rfl,hM⟩,hb⟩
def kB (gs:List Gd) (y:St):List Ev×Int:=match a6 (ad gs) y pH (eJ (ad gs)) with | (some z,R)=>(iS R z,0) | (none,_)=>([],4)
def pL (gs:List Gd) (al fl:List Int) (w:World) (e:Ending) (w':World):Prop :=
 Below w.heap.size w w'∧((∃ n,n≠0∧mD gs al fl n∧e=.returned (.tuple #[.slice none 0 0,.int .i64 n])) ∨
  (∃ y v,aS gs=true∧cA gs al fl y∧e=.returned (.tuple #[v,.int .i64 (kB gs y).2])∧EvR w.heap.size w' v (kB gs y).1))
theorem tk (gs:List Gd) (p:Option Addr) (c:Nat) (w:World) (v:Value) (al fl:List Int) (hP:dM w p c gs) (hQ:eT w v al fl) :
  Calls Tryz.prog 8 #[.agg #[.slice p gs.length c],v] w (pL gs al fl w):=by
 obtain⟨u1,u2,rfl,hI1,hI2⟩:=hQ.at_
 obtain⟨p1,c1,rfl,-⟩:=hI1.at_
 obtain⟨p2,c2,rfl,-⟩:=hI2.at_
 have hb1:Below w.heap.size w ((w.alloc (.cells #[.slice p gs.length c] 28)).alloc (.cells #[.slice p1 al.length c1,.slice p2 fl.length c2] 36)):=((Below.refl _ _).alloc (uo _) _).alloc (by simp) _
 have s0:((w.alloc (.cells #[.slice p gs.length c] 28)).alloc (.cells #[.slice p1 al.length c1,.slice p2 fl.length c2] 36)).heap[w.heap.size]?=some (.cells #[.slice p gs.length c] 28 (0,0)):=(heap_alloc_old _ _ (by simp)).trans (heap_alloc_new _ _)
 have s1:((w.alloc (.cells #[.slice p gs.length c] 28)).alloc (.cells #[.slice p1 al.length c1,.slice p2 fl.length c2] 36)).heap[w.heap.size+1]?=some (.cells #[.slice p1 al.length c1,.slice p2 fl.length c2] 36 (0,0)):=by
  have:=heap_alloc_new (w.alloc (.cells #[.slice p gs.length c] 28)) (.cells #[.slice p1 al.length c1,.slice p2 fl.length c2] 36)
  simpa using this
 have P1:=hP.below hb1
 have Q1:=hQ.below hb1
 have x0:=aa s0 0
 have x1:=aa s1 0
 have x2:=aa s1 1
 go_enter Tryz.func8,Tryz.ntmps8
 go_upto_region 1 with fail
 generalize (w.alloc (.cells #[.slice p gs.length c] 28)).alloc (.cells #[.slice p1 al.length c1,.slice p2 fl.length c2] 36)=w1 at *
 refine wp_region_lit ?_
 refine wpList_plain rfl (fun K hK=>?_)
 go_simp
 refine hK _ _ ?_
 clear hK K
 try simp only[Act.put,ut,uq,ur,uj,um,ul]
 refine wpList_plain rfl (fun K hK=>?_)
 go_simp
 refine hK _ _ ?_
 clear hK K
 try simp only[Act.put,ut,uq,ur,uj,um,ul]
 refine wpList_plain rfl (fun K hK=>?_)
 go_simp
 refine (mM gs p c w1 (.agg #[.slice p1 al.length c1,.slice p2 fl.length c2]) al fl P1 Q1).mono ?_
 intro e w2 hq
 obtain⟨pm,y,n,rfl,hq,hb2⟩:=hq.two
 refine hK _ _ ?_
 clear hK K
 try simp only[Act.put,ut,uq,ur,uj,um,ul]
 clear s0 s1 x0 x1 x2 P1 Q1
 have HB2:=hb1.trans (hb2.mono hb1.size)
 clear hb2 hb1
 refine wpList_plain rfl (fun K hK=>?_)
 go_simp
 refine hK _ _ ?_
 clear hK K
 try simp only[Act.put,ut,uq,ur,uj,um,ul]
 refine wpList_plain rfl (fun K hK=>?_)
 go_simp
 refine hK _ _ ?_
 clear hK K
 try simp only[Act.put,ut,uq,ur,uj,um,ul]
 refine wpList_plain rfl (fun K hK=>?_)
 go_simp
 refine hK _ _ ?_
 clear hK K
 try simp only[Act.put,ut,uq,ur,uj,um,ul]
 refine wpList_plain rfl (fun K hK=>?_)
 go_simp
 refine hK _ _ ?_
 clear hK K
 try simp only[Act.put,ut,uq,ur,uj,um,ul]
 have a1:=heap_alloc_new w2 (.cells #[.pointer none] 64)
 have hb3:Below w2.heap.size w2 (w2.alloc (.cells #[.pointer none] 64)):=(Below.refl _ _).alloc (uo _) _
 refine wpList_plain rfl (fun K hK=>?_)
 go_simp
 refine hK _ _ ?_
 clear hK K
 try simp only[Act.put,ut,uq,ur,uj,um,ul]
 generalize w2.alloc (.cells #[.pointer none] 64)=w3 at a1 hb3 ⊢
 have z0:StP (w3.alloc (.cells #[.int .i64 0,.int .i64 0,.int .i64 0,.int .i64 0,.int .i64 0,.int .i64 0] 71)) w3.heap.size St.zero:=StP.new w3 St.zero
 have hb4:Below w3.heap.size w3 (w3.alloc (.cells #[.int .i64 0,.int .i64 0,.int .i64 0,.int .i64 0,.int .i64 0,.int .i64 0] 71)):=(Below.refl _ _).alloc (uo _) _
 refine wpList_plain rfl (fun K hK=>?_)
 go_simp
 refine hK _ _ ?_
 clear hK K
 try simp only[Act.put,ut,uq,ur,uj,um,ul]
 generalize w3.alloc (.cells #[.int .i64 0,.int .i64 0,.int .i64 0,.int .i64 0,.int .i64 0,.int .i64 0] 71)=w4 at z0 hb4 ⊢
 have a2:=(hb4.block _ (ag a1)).trans a1
 have q0:=aa a2 0
 have f0:=frozen_of_row w4 w2.heap.size 0 _ _ a2
 refine wpList_plain rfl (fun K hK=>?_)
 go_simp
 refine hK _ _ ?_
 clear hK K
 try simp only[Act.put,ut,uq,ur,uj,um,ul]
 clear q0 f0
 have hlt3:w2.heap.size<w3.heap.size:=ag a1
 have a3:(w4.setCell ⟨w2.heap.size,0,none⟩ (.pointer pm)).heap[w2.heap.size]?=some (.cells #[.pointer pm] 64 (0,0)):=heap_setCell_same w4 w2.heap.size 0 _ _ (.pointer pm) a2
 have z1:StP (w4.setCell ⟨w2.heap.size,0,none⟩ (.pointer pm)) w3.heap.size St.zero:=by unfold StP;rw[Below.heap_setCell _ _ _ _ (by show w3.heap.size≠w2.heap.size;omega)];exact z0
 have hb5:Below w2.heap.size w2 (w4.setCell ⟨w2.heap.size,0,none⟩ (.pointer pm)):=(hb3.trans (hb4.mono hb3.size)).setCell (p:=⟨w2.heap.size,0,none⟩) (uo _) _
 generalize w4.setCell ⟨w2.heap.size,0,none⟩ (.pointer pm)=w5 at a3 z1 hb5 ⊢
 have q0:=z1.cell 0;have q1:=z1.cell 1;have q2:=z1.cell 2;have q3:=z1.cell 3;have q4:=z1.cell 4;have q5:=z1.cell 5
 have f0:=z1.fr 0;have f1:=z1.fr 1;have f2:=z1.fr 2;have f3:=z1.fr 3;have f4:=z1.fr 4;have f5:=z1.fr 5
 refine wpList_plain rfl (fun K hK=>?_)
 go_simp
 refine hK _ _ ?_
 clear hK K q0 q1 q2 q3 q4 q5 f0 f1 f2 f3 f4 f5
 try simp only[Act.put,ut,uq,ur,uj,um,ul]
 change wpList _ _ _ _ _ (aJ w5 w3.heap.size y)
 have hb6:Below w2.heap.size w2 (aJ w5 w3.heap.size y):=hb5.trans (aO (by omega))
 have SP:=z1.put y
 have a4:(aJ w5 w3.heap.size y).heap[w2.heap.size]?=some (.cells #[.pointer pm] 64 (0,0)):=(iD (by omega)).trans a3
 clear a1 a2 a3 z0 z1 hb3 hb4 hb5
 generalize aJ w5 w3.heap.size y=w6 at hb6 SP a4 ⊢
 have HB6:=HB2.trans (hb6.mono HB2.size)
 generalize w3.heap.size=sb at SP hlt3 ⊢
 rcases hq with ⟨hn0,hbe⟩ | ⟨rfl,hS,hok,m,vn,vb,mb,N,s,f,rfl,hM⟩
 ·have hd:(n != 0)=true:=by simp[hn0]
  have hEnd:Hid (pL gs al fl w (.returned (.tuple #[.slice none 0 0,.int .i64 n])) w6):=⟨HB6,Or.inl ⟨n,hn0,hbe,rfl⟩⟩
  clear hn0 hbe SP a4
  go_wp2_with fail
  go_ret2
  exact hEnd.out
 ·have M6:=hM.below hb6
  have c0:=SP.cell 0;have c1:=SP.cell 1;have c2:=SP.cell 2;have c3:=SP.cell 3;have c4:=SP.cell 4;have c5:=SP.cell 5
  have a5:=aa a4 0
  clear SP hM hb6
  have HCG:Hid (kB gs y=(match a6 (ad gs) y pH (eJ (ad gs)) with | (some z,R)=>(iS R z,0) | (none,_)=>([],4))):=rfl
  go_wp2_with fail
  refine (kM gs p c vn vb mb N s f w6 m y M6 (eo hS) hS hok.at_ 23 25 #[] #[.pointer (some ⟨w2.heap.size,0,none⟩)] pH (eJ (ad gs)) (cO Tryz.func23 (by kernel_rfl) (by decide)) (cO Tryz.func25 (by kernel_rfl) (by decide))
   (fun w' _ v _=>by rw[Array.append_empty];exact winN v w') (fun w' hb' z hz=>sk gs p c vn vb mb N s f w' m w2.heap.size z (M6.below hb') hS hz (aa ((hb'.block _ (ag a4)).trans a4) 0))).mono ?_
  rintro e w7 ⟨hb7,v7,mt,N7,s7,rfl,hT,hE,hmt⟩
  have hBz:=HB6.trans (hb7.mono HB6.size)
  have hsz:=HB6.size
  have hmg:=HCG.out
  clear HCG
  revert hT hE hmg
  generalize a6 (ad gs) y pH (eJ (ad gs))=res
  obtain⟨r1,R⟩:=res
  intro hT hE hmg
  cases r1 with
  | none =>
   simp only at hmg
   have HMG:=uk hmg
   clear hmg
   simp only[wl]
   go_wp2_with fail
   go_ret2
   exact⟨hBz,Or.inr ⟨y,_,hS,hok,by rw[HMG.out];rfl,by rw[HMG.out];exact World.ownsRow_nil _ _ _ _⟩⟩
  | some z =>
   simp only at hmg
   have HMG:=uk hmg
   clear hmg
   simp only[wm]
   go_wp2_with fail
   go_ret2
   exact⟨hBz,Or.inr ⟨y,_,hS,hok,by rw[HMG.out];rfl,by rw[HMG.out];exact d8 hE hsz⟩⟩
end Go.Proofs.YtlkniohhalnjjaaGreatDoor
