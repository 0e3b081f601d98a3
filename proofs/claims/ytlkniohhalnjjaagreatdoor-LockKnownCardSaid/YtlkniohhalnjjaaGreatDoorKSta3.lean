/- Lemmas of this claim. -/
import Derived.Test.YtlkniohhalnjjaaGreatDoorKReg
import Derived.Test.YtlkniohhalnjjaaGreatDoorKSta2
set_option linter.all false
set_option maxRecDepth 100000
set_option maxHeartbeats 8000000
namespace Go.Proofs.YtlkniohhalnjjaaGreatDoor
open Go.RowKit Dc Dg
def stV (y:St):Value:=.agg #[.int .i64 y.a0,.int .i64 y.a1,.int .i64 y.a2,.int .i64 y.f0,.int .i64 y.f1,.int .i64 y.f2]
def mD (gs:List Gd) (al fl:List Int) (n:Int):Prop:=(aS gs=false∧n=40)∨(aS gs=true∧n=41∧∀ z,¬ cA gs al fl z)
def mE (gs:List Gd) (p:Option Addr) (c:Nat) (al fl:List Int) (w:World) (e:Ending) (w':World):Prop :=
 Below w.heap.size w w'∧((∃ n,mD gs al fl n∧e=.returned (.tuple #[.pointer none,stV St.zero,.int .i64 n])) ∨
  (∃ (y:St) (m:Nat) (vn vb:Value) (mb N s:Nat) (f:Nat×Nat→Option Value),aS gs=true∧cA gs al fl y∧bZ w' m gs p c vn vb mb N s f∧e=.returned (.tuple #[.pointer (some ⟨m,0,none⟩),stV y,.int .i64 0])))
theorem mM (gs:List Gd) (p:Option Addr) (c:Nat) (w:World) (v:Value) (al fl:List Int) (hP:dM w p c gs) (hQ:eT w v al fl) :
  Calls Tryz.prog 22 #[.agg #[.slice p gs.length c],v] w (mE gs p c al fl w):=by
 obtain⟨u1,u2,rfl,hI1,hI2⟩:=hQ.at_
 obtain⟨p1,c1,rfl,-⟩:=hI1.at_
 obtain⟨p2,c2,rfl,-⟩:=hI2.at_
 have hb1:Below w.heap.size w (((w.alloc (.cells #[.slice p gs.length c] 28)).alloc (.cells #[.slice p1 al.length c1,.slice p2 fl.length c2] 36)).alloc (.cells #[.int .i64 0,.int .i64 0,.int .i64 0,.int .i64 0,.int .i64 0,.int .i64 0] 71)):=(((Below.refl _ _).alloc (uo _) _).alloc (by simp) _).alloc (by simp;omega) _
 have s0:(((w.alloc (.cells #[.slice p gs.length c] 28)).alloc (.cells #[.slice p1 al.length c1,.slice p2 fl.length c2] 36)).alloc (.cells #[.int .i64 0,.int .i64 0,.int .i64 0,.int .i64 0,.int .i64 0,.int .i64 0] 71)).heap[w.heap.size]?=some (.cells #[.slice p gs.length c] 28 (0,0)):=(heap_alloc_old _ _ (by simp;omega)).trans ((heap_alloc_old _ _ (by simp)).trans (heap_alloc_new _ _))
 have s1:(((w.alloc (.cells #[.slice p gs.length c] 28)).alloc (.cells #[.slice p1 al.length c1,.slice p2 fl.length c2] 36)).alloc (.cells #[.int .i64 0,.int .i64 0,.int .i64 0,.int .i64 0,.int .i64 0,.int .i64 0] 71)).heap[w.heap.size+1]?=some (.cells #[.slice p1 al.length c1,.slice p2 fl.length c2] 36 (0,0)):=by
  refine (heap_alloc_old _ _ (by simp)).trans ?_
  have:=heap_alloc_new (w.alloc (.cells #[.slice p gs.length c] 28)) (.cells #[.slice p1 al.length c1,.slice p2 fl.length c2] 36)
  simpa using this
 have s2:StP (((w.alloc (.cells #[.slice p gs.length c] 28)).alloc (.cells #[.slice p1 al.length c1,.slice p2 fl.length c2] 36)).alloc (.cells #[.int .i64 0,.int .i64 0,.int .i64 0,.int .i64 0,.int .i64 0,.int .i64 0] 71)) (w.heap.size+1+1) St.zero:=by
  have:=StP.new ((w.alloc (.cells #[.slice p gs.length c] 28)).alloc (.cells #[.slice p1 al.length c1,.slice p2 fl.length c2] 36)) St.zero
  have hz:((w.alloc (.cells #[.slice p gs.length c] 28)).alloc (.cells #[.slice p1 al.length c1,.slice p2 fl.length c2] 36)).heap.size=w.heap.size+1+1:=by simp
  rw[hz] at this
  exact this
 have P1:=hP.below hb1
 have Q1:=hQ.below hb1
 have c0:=aa s0 0
 go_enter Tryz.func22,Tryz.ntmps22
 go_upto_region 1 with fail
 generalize ((w.alloc (.cells #[.slice p gs.length c] 28)).alloc (.cells #[.slice p1 al.length c1,.slice p2 fl.length c2] 36)).alloc (.cells #[.int .i64 0,.int .i64 0,.int .i64 0,.int .i64 0,.int .i64 0,.int .i64 0] 71)=w1 at *
 go_wp2_with fail
 refine P1.check.mono ?_
 rintro e w2 ⟨rfl,hb2⟩
 have P2:=P1.below hb2
 have Q2:=Q1.below hb2
 have t0:=(hb2.block _ (ag s0)).trans s0
 have t1:=(hb2.block _ (ag s1)).trans s1
 have t2:=s2.below hb2
 have HB2:=hb1.trans (hb2.mono hb1.size)
 clear s0 s1 s2 hb2 hb1 P1 Q1 c0
 cases hS:aS gs
 ·simp only[u_,if_false]
  have q0:=t2.cell 0;have q1:=t2.cell 1;have q2:=t2.cell 2;have q3:=t2.cell 3;have q4:=t2.cell 4;have q5:=t2.cell 5
  have f0:=t2.fr 0;have f1:=t2.fr 1;have f2:=t2.fr 2;have f3:=t2.fr 3;have f4:=t2.fr 4;have f5:=t2.fr 5
  go_wp2_with fail
  all_goals
   change bodyPost _ _ _ _ _ (aJ w2 (w.heap.size+1+1) St.zero)
   have SP:=t2.put St.zero
   have hB:Below w.heap.size w (aJ w2 (w.heap.size+1+1) St.zero):=HB2.trans (aO (by omega))
   generalize aJ w2 (w.heap.size+1+1) St.zero=W at SP hB ⊢
   have q0:=SP.cell 0;have q1:=SP.cell 1;have q2:=SP.cell 2;have q3:=SP.cell 3;have q4:=SP.cell 4;have q5:=SP.cell 5
   refine bodyPost_ret (v:=.tuple #[.pointer none,stV St.zero,.int .i64 40]) (by unfold stV;simp[results,Tryz.results22,go_sem,q0,q1,q2,q3,q4,q5]) rfl ⟨hB,Or.inl ⟨40,Or.inl ⟨hS,rfl⟩,rfl⟩⟩
 ·simp only[if_true]
  have c0:=aa t0 0
  go_wp2_with fail
  refine (sU gs p c w2 P2.G hS).mono ?_
  rintro e w3 ⟨mB,vn,vb,mb,Nm,sm,f,rfl,hMP,hMZ,hb3⟩
  have Q3:=Q2.below hb3
  have k0:=(hb3.block _ (ag t0)).trans t0
  have k1:=(hb3.block _ (ag t1)).trans t1
  have k2:=t2.below hb3
  have HK2:=uk k2
  have HB3:=HB2.trans (hb3.mono HB2.size)
  clear t0 t1 t2 hb3 HB2 Q2 c0
  have d0:=aa k1 0
  have d1:=aa k1 1
  go_upto_region 5 with fail
  refine wp_region_lit ?_
  refine wpList_plain rfl (fun K hK=>?_)
  go_simp
  refine hK _ _ ?_
  clear hK K
  try simp only[Act.put,ut,uq,ur,uj,um,ul]
  refine wpList_plain rfl (fun K hK=>?_)
  go_simp
  refine hK _ _ ?_
  clear hK K
  try simp only[Act.put,ut,uq,ur,uj,um,ul]
  refine wpList_plain rfl (fun K hK=>?_)
  go_simp
  refine (rq gs p c vn vb mb Nm sm f w3 mB (.agg #[.slice p1 al.length c1,.slice p2 fl.length c2]) al fl hMP (eo hS) hS Q3).mono ?_
  rintro e w4 ⟨y,ok,rfl,hok,hno,hb4⟩
  refine hK _ _ ?_
  clear hK K
  try simp only[Act.put,ut,uq,ur,uj,um,ul]
  have r2:=k2.below hb4
  have HB34:=uk hb4
  have HB4:=HB3.trans (hb4.mono HB3.size)
  clear k0 k1 k2 hb4 HB3 Q3 d0 d1
  refine wpList_plain rfl (fun K hK=>?_)
  go_simp
  refine hK _ _ ?_
  clear hK K
  try simp only[Act.put,ut,uq,ur,uj,um,ul]
  refine wpList_plain rfl (fun K hK=>?_)
  go_simp
  refine hK _ _ ?_
  clear hK K
  try simp only[Act.put,ut,uq,ur,uj,um,ul]
  refine wpList_plain rfl (fun K hK=>?_)
  go_simp
  refine hK _ _ ?_
  clear hK K
  try simp only[Act.put,ut,uq,ur,uj,um,ul]
  refine wpList_plain rfl (fun K hK=>?_)
  go_simp
  refine hK _ _ ?_
  clear hK K
  try simp only[Act.put,ut,uq,ur,uj,um,ul]
  have z0:StP (w4.alloc (.cells #[.int .i64 0,.int .i64 0,.int .i64 0,.int .i64 0,.int .i64 0,.int .i64 0] 71)) w4.heap.size St.zero:=StP.new w4 St.zero
  have hB5:Below w4.heap.size w4 (w4.alloc (.cells #[.int .i64 0,.int .i64 0,.int .i64 0,.int .i64 0,.int .i64 0,.int .i64 0] 71)):=(Below.refl _ _).alloc (uo _) _
  generalize w4.alloc (.cells #[.int .i64 0,.int .i64 0,.int .i64 0,.int .i64 0,.int .i64 0,.int .i64 0] 71)=w5 at z0 hB5 ⊢
  have q0:=z0.cell 0;have q1:=z0.cell 1;have q2:=z0.cell 2;have q3:=z0.cell 3;have q4:=z0.cell 4;have q5:=z0.cell 5
  have f0:=z0.fr 0;have f1:=z0.fr 1;have f2:=z0.fr 2;have f3:=z0.fr 3;have f4:=z0.fr 4;have f5:=z0.fr 5
  refine wpList_plain rfl (fun K hK=>?_)
  go_simp
  refine hK _ _ ?_
  clear hK K q0 q1 q2 q3 q4 q5 f0 f1 f2 f3 f4 f5
  try simp only[Act.put,ut,uq,ur,uj,um,ul]
  change wpList _ _ _ _ _ (aJ w5 w4.heap.size y)
  have SP:=z0.put y
  have hB6:=hB5.trans (aO (w:=w5) (b:=w4.heap.size) (z:=y) (uo _))
  generalize aJ w5 w4.heap.size y=w6 at SP hB6 ⊢
  have HB36:=uk (HB34.out.trans (hB6.mono HB34.out.size))
  have r6:=r2.below hB6
  have HB6:=HB4.trans (hB6.mono HB4.size)
  clear r2 HB4 z0 hB5 hB6
  cases ok
  ·have hEnd:Hid (mE gs p c al fl w (.returned (.tuple #[.pointer none,stV St.zero,.int .i64 41])) (aJ w6 (w.heap.size+1+1) St.zero)):=⟨HB6.trans (aO (by omega)),Or.inl ⟨41,Or.inr ⟨hS,rfl,hno rfl⟩,rfl⟩⟩
   clear hno hok
   have q0:=r6.cell 0;have q1:=r6.cell 1;have q2:=r6.cell 2;have q3:=r6.cell 3;have q4:=r6.cell 4;have q5:=r6.cell 5
   have f0:=r6.fr 0;have f1:=r6.fr 1;have f2:=r6.fr 2;have f3:=r6.fr 3;have f4:=r6.fr 4;have f5:=r6.fr 5
   go_wp2_with fail
   change bodyPost _ _ _ _ _ (aJ w6 (w.heap.size+1+1) St.zero)
   have SP2:=r6.put St.zero
   have hB:=hEnd.out
   clear q0 q1 q2 q3 q4 q5 f0 f1 f2 f3 f4 f5
   generalize aJ w6 (w.heap.size+1+1) St.zero=W at SP2 hB ⊢
   have q0:=SP2.cell 0;have q1:=SP2.cell 1;have q2:=SP2.cell 2;have q3:=SP2.cell 3;have q4:=SP2.cell 4;have q5:=SP2.cell 5
   refine bodyPost_ret (v:=.tuple #[.pointer none,stV St.zero,.int .i64 41]) (by unfold stV;simp[results,Tryz.results22,go_sem,q0,q1,q2,q3,q4,q5]) rfl hB
  ·have hEnd:Hid (mE gs p c al fl w (.returned (.tuple #[.pointer (some ⟨mB,0,none⟩),stV y,.int .i64 0])) (aJ w6.drew (w.heap.size+1+1) y)):=by
    have hd:Below w6.heap.size w6 w6.drew:=below_drewN (Below.refl w6.heap.size w6) 1
    have h3:Below w3.heap.size w3 w6.drew:=HB36.out.trans (hd.mono HB36.out.size)
    have hB:Below w.heap.size w (aJ w6.drew (w.heap.size+1+1) y):=(HB6.trans (hd.mono HB6.size)).trans (aO (by omega))
    have hsz:(aJ w6.drew (w.heap.size+1+1) y).heap.size=w6.drew.heap.size:=by simp[aJ]
    exact⟨hB,Or.inr ⟨y,mB,vn,vb,mb,Nm,sm,f,hS,hok rfl,hMZ (w.heap.size+1+1) _ (fun _=>⟨_,_,HK2.out⟩) (by rw[hsz];exact h3.size) (fun k hk hne=>(iD hne).trans (h3.block k hk)) (hP.G.below hB),rfl⟩⟩
   have hSt:(fun wy:World=>StP wy w4.heap.size y) w6.drew:=SP.below (below_drewN (Below.refl w6.heap.size w6) 1)
   have r7:StP w6.drew (w.heap.size+1+1) St.zero:=r6.below (below_drewN (Below.refl w6.heap.size w6) 1)
   clear hok hno r6 SP HB6
   go_wp2_with fail
   refine ax (fun wy:World=>StP wy w4.heap.size y) (fun i=>Nat.beq i 3) (by kernel_rfl) ?_
   generalize w6.drew=w7 at hEnd hSt r7 ⊢
   refine ae (i:=0) (v:=?vv1) rfl (by kernel_rfl) (fun _ _ _ h=>h) rfl ?hy1 ?rest1
   case hy1=>(intro wy;go_simp;try with_reducible rfl)
   try simp only[Act.put,ut,uq,ur,uj,um,ul]
   refine ak (i:=1) (v:=?vvl) rfl (by kernel_rfl) (fun _ _ _ h=>h) rfl hSt ?hyl ?restl
   case hyl =>
    intro wy hy
    have hy':StP wy w4.heap.size y:=hy
    have q0:=hy'.cell 0;have q1:=hy'.cell 1;have q2:=hy'.cell 2;have q3:=hy'.cell 3;have q4:=hy'.cell 4;have q5:=hy'.cell 5
    clear hy hy'
    go_simp
    try with_reducible rfl
   try simp only[Act.put,ut,uq,ur,uj,um,ul]
   refine ae (i:=2) (v:=?vv2) rfl (by kernel_rfl) (fun _ _ _ h=>h) rfl ?hy2 ?rest2
   case hy2=>(intro wy;go_simp;try with_reducible rfl)
   try simp only[Act.put,ut,uq,ur,uj,um,ul]
   have q0:=r7.cell 0;have q1:=r7.cell 1;have q2:=r7.cell 2;have q3:=r7.cell 3;have q4:=r7.cell 4;have q5:=r7.cell 5
   have f0:=r7.fr 0;have f1:=r7.fr 1;have f2:=r7.fr 2;have f3:=r7.fr 3;have f4:=r7.fr 4;have f5:=r7.fr 5
   refine an (i:=3) rfl (by kernel_rfl) rfl (fun K hK=>?_)
   go_simp
   change K _ (aJ w7 (w.heap.size+1+1) y)
   refine hK _ _ (fun h=>by cases h) ?_
   clear hK K q0 q1 q2 q3 q4 q5 f0 f1 f2 f3 f4 f5
   try simp only[Act.put,ut,uq,ur,uj,um,ul]
   refine ae (i:=4) (v:=?vv3) rfl (by kernel_rfl) (fun _ _ _ h=>h) rfl ?hy3 ?rest3
   case hy3=>(intro wy;go_simp;try with_reducible rfl)
   try simp only[Act.put,ut,uq,ur,uj,um,ul]
   try simp only[Act.put,ut,uq,ur,uj,um,ul]
   refine aW (by kernel_rfl) ?_ _
   have SP2:=r7.put y
   have hB:=hEnd.out
   generalize aJ w7 (w.heap.size+1+1) y=W at SP2 hB ⊢
   have q0:=SP2.cell 0;have q1:=SP2.cell 1;have q2:=SP2.cell 2;have q3:=SP2.cell 3;have q4:=SP2.cell 4;have q5:=SP2.cell 5
   go_wp2_with fail
   refine bodyPost_ret (v:=.tuple #[.pointer (some ⟨mB,0,none⟩),stV y,.int .i64 0]) (by unfold stV;simp[results,Tryz.results22,go_sem,q0,q1,q2,q3,q4,q5]) rfl hB
theorem mE.one {gs:List Gd}{p:Option Addr}{c:Nat}{al fl:List Int}{w w':World}{e:Ending} (h:mE gs p c al fl w e w') :
  ∃ (pm:Value) (y:St) (n:Int),e=.returned (.tuple #[pm,.agg #[.int .i64 y.a0,.int .i64 y.a1,.int .i64 y.a2,.int .i64 y.f0,.int .i64 y.f1,.int .i64 y.f2],.int .i64 n]) ∧
   ((n≠0∧mD gs al fl n)∨(n=0∧aS gs=true∧cA gs al fl y∧∃ (m:Nat) (vn vb:Value) (mb N s:Nat) (f:Nat×Nat→Option Value),pm=.pointer (some ⟨m,0,none⟩)∧bZ w' m gs p c vn vb mb N s f))∧Below w.heap.size w w':=by
 obtain⟨hb,⟨n,hn,rfl⟩ | ⟨y,m,vn,vb,mb,N,s,f,hS,hk,hM,rfl⟩⟩:=h
 ·refine⟨_,St.zero,n,rfl,Or.inl ⟨?_,hn⟩,hb⟩
  rcases hn with ⟨_,rfl⟩ | ⟨_,rfl,_⟩<;>decide
 ·exact⟨_,y,0,rfl,Or.inr ⟨rfl,hS,hk,m,vn,vb,mb,N,s,f,rfl,hM⟩,hb⟩
def cG:Value:=.agg #[.slice none 0 0,.slice none 0 0]
def pN (gs:List Gd) (al fl:List Int) (v:Ev) (w:World) (e:Ending) (w':World):Prop :=
 Below w.heap.size w w'∧((∃ n,n≠0∧mD gs al fl n∧e=.returned (.tuple #[cG,.int .i64 n])) ∨
  (∃ y,aS gs=true∧cA gs al fl y∧((cx (ad gs) v=false∧e=.returned (.tuple #[cG,.int .i64 42]))∨(cx (ad gs) v=true∧∃ u,e=.returned (.tuple #[u,.int .i64 0])∧lc w.heap.size gs.length w' u (bB (ad gs) y v)))))
theorem oZ (gs:List Gd) (p:Option Addr) (c:Nat) (w:World) (v:Value) (al fl:List Int) (ev:Ev) (hP:dM w p c gs) (hQ:eT w v al fl) :
  Calls Tryz.prog 14 #[.agg #[.slice p gs.length c],v,.agg #[.int .i64 ev.g,.int .i64 ev.k]] w (pN gs al fl ev w):=by
 obtain⟨u1,u2,rfl,hI1,hI2⟩:=hQ.at_
 obtain⟨p1,c1,rfl,-⟩:=hI1.at_
 obtain⟨p2,c2,rfl,-⟩:=hI2.at_
 obtain⟨eg,ek⟩:=ev
 simp only
 have hb0:Below w.heap.size w ((w.alloc (.cells #[.slice p gs.length c] 28)).alloc (.cells #[.slice p1 al.length c1,.slice p2 fl.length c2] 36)):=((Below.refl _ _).alloc (uo _) _).alloc (by simp) _
 have s0:((w.alloc (.cells #[.slice p gs.length c] 28)).alloc (.cells #[.slice p1 al.length c1,.slice p2 fl.length c2] 36)).heap[w.heap.size]?=some (.cells #[.slice p gs.length c] 28 (0,0)):=(heap_alloc_old _ _ (by simp)).trans (heap_alloc_new _ _)
 have s1:((w.alloc (.cells #[.slice p gs.length c] 28)).alloc (.cells #[.slice p1 al.length c1,.slice p2 fl.length c2] 36)).heap[w.heap.size+1]?=some (.cells #[.slice p1 al.length c1,.slice p2 fl.length c2] 36 (0,0)):=by
  have:=heap_alloc_new (w.alloc (.cells #[.slice p gs.length c] 28)) (.cells #[.slice p1 al.length c1,.slice p2 fl.length c2] 36)
  simpa using this
 have hz0:((w.alloc (.cells #[.slice p gs.length c] 28)).alloc (.cells #[.slice p1 al.length c1,.slice p2 fl.length c2] 36)).heap.size=w.heap.size+1+1:=by simp
 go_enter Tryz.func14,Tryz.ntmps14
 go_upto_region 1 with fail
 generalize (w.alloc (.cells #[.slice p gs.length c] 28)).alloc (.cells #[.slice p1 al.length c1,.slice p2 fl.length c2] 36)=w0 at *
 have hb1:Below w0.heap.size w0 ((w0.alloc (.cells #[.int .i64 eg,.int .i64 ek] 31)).alloc (.cells #[.slice none 0 0,.slice none 0 0] 36)):=((Below.refl _ _).alloc (uo _) _).alloc (by simp) _
 have s2:((w0.alloc (.cells #[.int .i64 eg,.int .i64 ek] 31)).alloc (.cells #[.slice none 0 0,.slice none 0 0] 36)).heap[w.heap.size+1+1]?=some (.cells #[.int .i64 eg,.int .i64 ek] 31 (0,0)):=by
  rw[←hz0]
  exact (heap_alloc_old _ _ (by simp)).trans (heap_alloc_new _ _)
 have s3:((w0.alloc (.cells #[.int .i64 eg,.int .i64 ek] 31)).alloc (.cells #[.slice none 0 0,.slice none 0 0] 36)).heap[w.heap.size+1+1+1]?=some (.cells #[.slice none 0 0,.slice none 0 0] 36 (0,0)):=by
  have:=heap_alloc_new (w0.alloc (.cells #[.int .i64 eg,.int .i64 ek] 31)) (.cells #[.slice none 0 0,.slice none 0 0] 36)
  rw[←hz0]
  simpa using this
 have P1:=(hP.below hb0).below hb1
 have Q1:=(hQ.below hb0).below hb1
 have t0:=(hb1.block _ (ag s0)).trans s0
 have t1:=(hb1.block _ (ag s1)).trans s1
 have HB1:=hb0.trans (hb1.mono hb0.size)
 clear s0 s1 hb0 hb1 hz0
 generalize (w0.alloc (.cells #[.int .i64 eg,.int .i64 ek] 31)).alloc (.cells #[.slice none 0 0,.slice none 0 0] 36)=w1 at *
 have x0:=aa t0 0
 have x1:=aa t1 0
 have x2:=aa t1 1
 refine wp_region_lit ?_
 refine wpList_plain rfl (fun K hK=>?_)
 go_simp
 refine hK _ _ ?_
 clear hK K
 try simp only[Act.put,ut,uq,ur,uj,um,ul]
 refine wpList_plain rfl (fun K hK=>?_)
 go_simp
 refine hK _ _ ?_
 clear hK K
 try simp only[Act.put,ut,uq,ur,uj,um,ul]
 refine wpList_plain rfl (fun K hK=>?_)
 go_simp
 refine (mM gs p c w1 (.agg #[.slice p1 al.length c1,.slice p2 fl.length c2]) al fl P1 Q1).mono ?_
 intro e w2 hq
 obtain⟨pm,y,n,rfl,hq,hb2⟩:=hq.one
 refine hK _ _ ?_
 clear hK K
 try simp only[Act.put,ut,uq,ur,uj,um,ul]
 have v2:=(hb2.block _ (ag s2)).trans s2
 have v3:=(hb2.block _ (ag s3)).trans s3
 have HB2:=HB1.trans (hb2.mono HB1.size)
 clear s2 s3 t0 t1 x0 x1 x2 P1 Q1 hb2 HB1
 refine wpList_plain rfl (fun K hK=>?_)
 go_simp
 refine hK _ _ ?_
 clear hK K
 try simp only[Act.put,ut,uq,ur,uj,um,ul]
 refine wpList_plain rfl (fun K hK=>?_)
 go_simp
 refine hK _ _ ?_
 clear hK K
 try simp only[Act.put,ut,uq,ur,uj,um,ul]
 refine wpList_plain rfl (fun K hK=>?_)
 go_simp
 refine hK _ _ ?_
 clear hK K
 try simp only[Act.put,ut,uq,ur,uj,um,ul]
 refine wpList_plain rfl (fun K hK=>?_)
 go_simp
 refine hK _ _ ?_
 clear hK K
 try simp only[Act.put,ut,uq,ur,uj,um,ul]
 refine wpList_plain rfl (fun K hK=>?_)
 go_simp
 refine hK _ _ ?_
 clear hK K
 try simp only[Act.put,ut,uq,ur,uj,um,ul]
 have z0:StP (w2.alloc (.cells #[.int .i64 0,.int .i64 0,.int .i64 0,.int .i64 0,.int .i64 0,.int .i64 0] 71)) w2.heap.size St.zero:=StP.new w2 St.zero
 have hB5:Below w2.heap.size w2 (w2.alloc (.cells #[.int .i64 0,.int .i64 0,.int .i64 0,.int .i64 0,.int .i64 0,.int .i64 0] 71)):=(Below.refl _ _).alloc (uo _) _
 generalize w2.alloc (.cells #[.int .i64 0,.int .i64 0,.int .i64 0,.int .i64 0,.int .i64 0,.int .i64 0] 71)=w5 at z0 hB5 ⊢
 have q0:=z0.cell 0;have q1:=z0.cell 1;have q2:=z0.cell 2;have q3:=z0.cell 3;have q4:=z0.cell 4;have q5:=z0.cell 5
 have f0:=z0.fr 0;have f1:=z0.fr 1;have f2:=z0.fr 2;have f3:=z0.fr 3;have f4:=z0.fr 4;have f5:=z0.fr 5
 refine wpList_plain rfl (fun K hK=>?_)
 go_simp
 refine hK _ _ ?_
 clear hK K
 try simp only[Act.put,ut,uq,ur,uj,um,ul]
 refine wpList_plain rfl (fun K hK=>?_)
 go_simp
 refine hK _ _ ?_
 clear hK K q0 q1 q2 q3 q4 q5 f0 f1 f2 f3 f4 f5
 try simp only[Act.put,ut,uq,ur,uj,um,ul]
 change wpList _ _ _ _ _ (aJ w5 w2.heap.size y)
 have hB6:=hB5.trans (aO (w:=w5) (b:=w2.heap.size) (z:=y) (uo _))
 have SP:=z0.put y
 generalize aJ w5 w2.heap.size y=w6 at hB6 SP ⊢
 have k2:=(hB6.block _ (ag v2)).trans v2
 have k3:=(hB6.block _ (ag v3)).trans v3
 have HB6:=HB2.trans (hB6.mono HB2.size)
 have hq6:(n≠0∧mD gs al fl n)∨(n=0∧aS gs=true∧cA gs al fl y∧∃ (m:Nat) (vn vb:Value) (mb N s:Nat) (f:Nat×Nat→Option Value),pm=.pointer (some ⟨m,0,none⟩)∧bZ w6 m gs p c vn vb mb N s f):=by
  rcases hq with h | ⟨h1,h2,h3,m,vn,vb,mb,N,s,f,h4,h5⟩
  ·exact Or.inl h
  ·exact Or.inr ⟨h1,h2,h3,m,vn,vb,mb,N,s,f,h4,h5.below hB6⟩
 clear hq v2 v3 HB2 z0 hB5 hB6
 refine wpList_plain rfl (fun K hK=>?_)
 go_simp
 refine hK _ _ ?_
 clear hK K
 try simp only[Act.put,ut,uq,ur,uj,um,ul]
 rcases hq6 with ⟨hn0,hbe⟩ | ⟨rfl,hS,hok,m,vn,vb,mb,N,s,f,rfl,hM⟩
 ·have hd:(n != 0)=true:=by simp[hn0]
  have hEnd:Hid (∀ W,Below w.heap.size w W→pN gs al fl ⟨eg,ek⟩ w (.returned (.tuple #[cG,.int .i64 n])) W):=fun W hW=>⟨hW,Or.inl ⟨n,hn0,hbe,rfl⟩⟩
  clear hn0 hbe k2 SP
  have q0:=aa k3 0
  have q1:=aa k3 1
  have f0:=frozen_of_row w6 (w.heap.size+1+1+1) 0 _ _ k3
  have f1:=frozen_of_row w6 (w.heap.size+1+1+1) 1 _ _ k3
  go_wp2_with fail
  have e1:=heap_setCell_same w6 (w.heap.size+1+1+1) 0 _ _ (Value.slice none 0 0) k3
  have e2:=heap_setCell_same _ (w.heap.size+1+1+1) 1 _ _ (Value.slice none 0 0) e1
  have hB:Below w.heap.size w ((w6.setCell ⟨w.heap.size+1+1+1,0,none⟩ (.slice none 0 0)).setCell ⟨w.heap.size+1+1+1,1,none⟩ (.slice none 0 0)):=(HB6.setCell (p:=⟨w.heap.size+1+1+1,0,none⟩) (by show w.heap.size≤w.heap.size+1+1+1;omega) _).setCell (p:=⟨w.heap.size+1+1+1,1,none⟩) (by show w.heap.size≤w.heap.size+1+1+1;omega) _
  clear q0 q1 f0 f1
  generalize (w6.setCell ⟨w.heap.size+1+1+1,0,none⟩ (.slice none 0 0)).setCell ⟨w.heap.size+1+1+1,1,none⟩ (.slice none 0 0)=W at *
  have r0:W.cell? ⟨w.heap.size+1+1+1,0,none⟩=some (Value.slice none 0 0):=aa e2 0
  have r1:W.cell? ⟨w.heap.size+1+1+1,1,none⟩=some (Value.slice none 0 0):=aa e2 1
  refine bodyPost_ret (v:=.tuple #[cG,.int .i64 n]) (by unfold cG;simp[results,Tryz.results14,go_sem,r0,r1]) rfl (hEnd.out _ hB)
 ·obtain⟨hn1,hn3⟩:=bf hS
  have e0:=aa k2 0
  have e1:=aa k2 1
  go_wp2_with fail
  refine (lp gs p c m ⟨eg,ek⟩ w6 hM.m0 hn3).mono ?_
  rintro e w7 ⟨rfl,hb7⟩
  have SP7:=SP.below hb7
  have M7:=hM.below hb7
  have j2:=(hb7.block _ (ag k2)).trans k2
  have j3:=(hb7.block _ (ag k3)).trans k3
  have HB7:=HB6.trans (hb7.mono HB6.size)
  clear e0 e1 k2 k3 SP hM hb7 HB6
  cases hok2:cx (ad gs) ⟨eg,ek⟩
  ·have hEnd:Hid (∀ W,Below w.heap.size w W→pN gs al fl ⟨eg,ek⟩ w (.returned (.tuple #[cG,.int .i64 42])) W):=fun W hW=>⟨hW,Or.inr ⟨y,hS,hok,Or.inl ⟨hok2,rfl⟩⟩⟩
   clear hok2 SP7 j2
   have q0:=aa j3 0
   have q1:=aa j3 1
   have f0:=frozen_of_row w7 (w.heap.size+1+1+1) 0 _ _ j3
   have f1:=frozen_of_row w7 (w.heap.size+1+1+1) 1 _ _ j3
   go_wp2_with fail
   have e1:=heap_setCell_same w7 (w.heap.size+1+1+1) 0 _ _ (Value.slice none 0 0) j3
   have e2:=heap_setCell_same _ (w.heap.size+1+1+1) 1 _ _ (Value.slice none 0 0) e1
   have hB:Below w.heap.size w ((w7.setCell ⟨w.heap.size+1+1+1,0,none⟩ (.slice none 0 0)).setCell ⟨w.heap.size+1+1+1,1,none⟩ (.slice none 0 0)):=(HB7.setCell (p:=⟨w.heap.size+1+1+1,0,none⟩) (by show w.heap.size≤w.heap.size+1+1+1;omega) _).setCell (p:=⟨w.heap.size+1+1+1,1,none⟩) (by show w.heap.size≤w.heap.size+1+1+1;omega) _
   clear q0 q1 f0 f1
   generalize (w7.setCell ⟨w.heap.size+1+1+1,0,none⟩ (.slice none 0 0)).setCell ⟨w.heap.size+1+1+1,1,none⟩ (.slice none 0 0)=W at *
   have r0:W.cell? ⟨w.heap.size+1+1+1,0,none⟩=some (Value.slice none 0 0):=aa e2 0
   have r1:W.cell? ⟨w.heap.size+1+1+1,1,none⟩=some (Value.slice none 0 0):=aa e2 1
   refine bodyPost_ret (v:=.tuple #[cG,.int .i64 42]) (by unfold cG;simp[results,Tryz.results14,go_sem,r0,r1]) rfl (hEnd.out _ hB)
  ·obtain⟨g1,g2,g3,g4⟩:=dZ.1 hok2
   simp only at g1 g2 g3 g4
   obtain⟨g,rfl⟩:∃ g:Nat,eg=(g:Int):=⟨eg.toNat,by omega⟩
   have hMn:(ad gs).n=gs.length:=rfl
   have hg:g<gs.length:=by omega
   have HOK2:=uk hok2
   clear hok2
   have e0:=aa j2 0
   have e1:=aa j2 1
   have c0:=SP7.cell 0;have c1:=SP7.cell 1;have c2:=SP7.cell 2;have c3:=SP7.cell 3;have c4:=SP7.cell 4;have c5:=SP7.cell 5
   go_wp2_with fail
   refine (n6 gs p c vn vb mb N s f w7 m y g ek M7 (eo hS) hS hok.at_ hg g3 g4).mono ?_
   rintro e w8 ⟨z,rfl,hz,hb8⟩
   have M8:=M7.below hb8
   have i3:=(hb8.block _ (ag j3)).trans j3
   have HB8:=HB7.trans (hb8.mono HB7.size)
   clear e0 e1 c0 c1 c2 c3 c4 c5 j2 j3 SP7 M7 hb8 HB7
   go_wp2_with fail
   refine (kN gs p c m z w8 M8.m0 hn3).mono ?_
   rintro e w9 ⟨u,rfl,hu,hb9⟩
   obtain⟨v1,v2,rfl,hu1,hu2⟩:=hu
   obtain⟨r1,rc1,rfl⟩:=hu1.slice
   obtain⟨r2,rc2,rfl⟩:=hu2.slice
   have h3:=(hb9.block _ (ag i3)).trans i3
   have HB9:=HB8.trans (hb9.mono HB8.size)
   have hi3:=ag i3
   have hw8:w.heap.size≤w8.heap.size:=HB8.size
   clear i3 M8 hb9 HB8
   have q0:=aa h3 0
   have q1:=aa h3 1
   have f0:=frozen_of_row w9 (w.heap.size+1+1+1) 0 _ _ h3
   have f1:=frozen_of_row w9 (w.heap.size+1+1+1) 1 _ _ h3
   go_wp2_with fail
   have e1:=heap_setCell_same w9 (w.heap.size+1+1+1) 0 _ _ (Value.slice r1 (atL gs.length z).length rc1) h3
   have e2:=heap_setCell_same _ (w.heap.size+1+1+1) 1 _ _ (Value.slice r2 (aN gs.length z).length rc2) e1
   have hB:Below w.heap.size w ((w9.setCell ⟨w.heap.size+1+1+1,0,none⟩ (.slice r1 (atL gs.length z).length rc1)).setCell ⟨w.heap.size+1+1+1,1,none⟩ (.slice r2 (aN gs.length z).length rc2)):=(HB9.setCell (p:=⟨w.heap.size+1+1+1,0,none⟩) (by show w.heap.size≤w.heap.size+1+1+1;omega) _).setCell (p:=⟨w.heap.size+1+1+1,1,none⟩) (by show w.heap.size≤w.heap.size+1+1+1;omega) _
   have hI1:aG w.heap.size ((w9.setCell ⟨w.heap.size+1+1+1,0,none⟩ (.slice r1 (atL gs.length z).length rc1)).setCell ⟨w.heap.size+1+1+1,1,none⟩ (.slice r2 (aN gs.length z).length rc2)) (.slice r1 (atL gs.length z).length rc1) (atL gs.length z):=((hu1.setOld _ hi3).setOld _ hi3).base hw8
   have hI2:aG w.heap.size ((w9.setCell ⟨w.heap.size+1+1+1,0,none⟩ (.slice r1 (atL gs.length z).length rc1)).setCell ⟨w.heap.size+1+1+1,1,none⟩ (.slice r2 (aN gs.length z).length rc2)) (.slice r2 (aN gs.length z).length rc2) (aN gs.length z):=((hu2.setOld _ hi3).setOld _ hi3).base hw8
   clear q0 q1 f0 f1 hu1 hu2 HB9
   generalize (w9.setCell ⟨w.heap.size+1+1+1,0,none⟩ (.slice r1 (atL gs.length z).length rc1)).setCell ⟨w.heap.size+1+1+1,1,none⟩ (.slice r2 (aN gs.length z).length rc2)=W at *
   have t0:W.cell? ⟨w.heap.size+1+1+1,0,none⟩=some (Value.slice r1 (atL gs.length z).length rc1):=aa e2 0
   have t1:W.cell? ⟨w.heap.size+1+1+1,1,none⟩=some (Value.slice r2 (aN gs.length z).length rc2):=aa e2 1
   refine bodyPost_ret (v:=.tuple #[.agg #[.slice r1 (atL gs.length z).length rc1,.slice r2 (aN gs.length z).length rc2],.int .i64 0]) (by simp[results,Tryz.results14,go_sem,t0,t1]) rfl ?_
   exact⟨hB,Or.inr ⟨y,hS,hok,Or.inr ⟨HOK2.out,_,rfl,by rw[hz.out];exact⟨_,_,rfl,hI1,hI2⟩⟩⟩⟩
def td (gs:List Gd) (w:World) (e:Ending) (w':World):Prop :=
 Below w.heap.size w w'∧((aS gs=false∧e=.returned (.tuple #[cG,.int .i64 40]))∨(aS gs=true∧∃ u,e=.returned (.tuple #[u,.int .i64 0])∧lc w.heap.size gs.length w' u St.zero))
theorem tF (gs:List Gd) (p:Option Addr) (c:Nat) (w:World) (hP:dM w p c gs) :
  Calls Tryz.prog 7 #[.agg #[.slice p gs.length c]] w (td gs w):=by
 have hb1:Below w.heap.size w ((w.alloc (.cells #[.slice p gs.length c] 28)).alloc (.cells #[.slice none 0 0,.slice none 0 0] 36)):=((Below.refl _ _).alloc (uo _) _).alloc (by simp) _
 have s0:((w.alloc (.cells #[.slice p gs.length c] 28)).alloc (.cells #[.slice none 0 0,.slice none 0 0] 36)).heap[w.heap.size]?=some (.cells #[.slice p gs.length c] 28 (0,0)):=(heap_alloc_old _ _ (by simp)).trans (heap_alloc_new _ _)
 have s1:((w.alloc (.cells #[.slice p gs.length c] 28)).alloc (.cells #[.slice none 0 0,.slice none 0 0] 36)).heap[w.heap.size+1]?=some (.cells #[.slice none 0 0,.slice none 0 0] 36 (0,0)):=by
  have:=heap_alloc_new (w.alloc (.cells #[.slice p gs.length c] 28)) (.cells #[.slice none 0 0,.slice none 0 0] 36)
  simpa using this
 have P1:=hP.below hb1
 have x0:=aa s0 0
 go_enter Tryz.func7,Tryz.ntmps7
 go_upto_region 1 with fail
 generalize (w.alloc (.cells #[.slice p gs.length c] 28)).alloc (.cells #[.slice none 0 0,.slice none 0 0] 36)=w1 at *
 go_wp2_with fail
 refine P1.check.mono ?_
 rintro e w2 ⟨rfl,hb2⟩
 have P2:=P1.below hb2
 have k0:=(hb2.block _ (ag s0)).trans s0
 have k1:=(hb2.block _ (ag s1)).trans s1
 have HB2:=hb1.trans (hb2.mono hb1.size)
 clear s0 s1 x0 hb1 hb2 P1
 cases hS:aS gs
 ·simp only[u_,if_false]
  have q0:=aa k1 0
  have q1:=aa k1 1
  have f0:=frozen_of_row w2 (w.heap.size+1) 0 _ _ k1
  have f1:=frozen_of_row w2 (w.heap.size+1) 1 _ _ k1
  go_wp2_with fail
  all_goals
   have e1:=heap_setCell_same w2 (w.heap.size+1) 0 _ _ (Value.slice none 0 0) k1
   have e2:=heap_setCell_same _ (w.heap.size+1) 1 _ _ (Value.slice none 0 0) e1
   have hB:Below w.heap.size w ((w2.setCell ⟨w.heap.size+1,0,none⟩ (.slice none 0 0)).setCell ⟨w.heap.size+1,1,none⟩ (.slice none 0 0)):=(HB2.setCell (p:=⟨w.heap.size+1,0,none⟩) (by show w.heap.size≤w.heap.size+1;omega) _).setCell (p:=⟨w.heap.size+1,1,none⟩) (by show w.heap.size≤w.heap.size+1;omega) _
   generalize (w2.setCell ⟨w.heap.size+1,0,none⟩ (.slice none 0 0)).setCell ⟨w.heap.size+1,1,none⟩ (.slice none 0 0)=W at *
   have r0:W.cell? ⟨w.heap.size+1,0,none⟩=some (Value.slice none 0 0):=aa e2 0
   have r1:W.cell? ⟨w.heap.size+1,1,none⟩=some (Value.slice none 0 0):=aa e2 1
   refine bodyPost_ret (v:=.tuple #[cG,.int .i64 40]) (by unfold cG;simp[results,Tryz.results7,go_sem,r0,r1]) rfl ?_
   exact⟨hB,Or.inl ⟨hS,rfl⟩⟩
 ·simp only[if_true]
  obtain⟨hn1,hn3⟩:=bf hS
  have x0:=aa k0 0
  go_wp2_with fail
  refine (ki gs p c w2 P2.G hS).mono ?_
  rintro e w3 ⟨mB,vn,vb,mb,Nm,sm,f,rfl,hM,hb3⟩
  have j1:=(hb3.block _ (ag k1)).trans k1
  have HB3:=HB2.trans (hb3.mono HB2.size)
  clear k0 k1 x0 P2 hb3 HB2
  go_wp2_with fail
  refine (kN gs p c mB St.zero w3 hM.m0 hn3).mono ?_
  rintro e w9 ⟨u,rfl,hu,hb9⟩
  obtain⟨v1,v2,rfl,hu1,hu2⟩:=hu
  obtain⟨r1,rc1,rfl⟩:=hu1.slice
  obtain⟨r2,rc2,rfl⟩:=hu2.slice
  have h3:=(hb9.block _ (ag j1)).trans j1
  have HB9:=HB3.trans (hb9.mono HB3.size)
  have hi3:=ag j1
  have hw8:w.heap.size≤w3.heap.size:=HB3.size
  clear j1 hM hb9 HB3
  have q0:=aa h3 0
  have q1:=aa h3 1
  have f0:=frozen_of_row w9 (w.heap.size+1) 0 _ _ h3
  have f1:=frozen_of_row w9 (w.heap.size+1) 1 _ _ h3
  go_wp2_with fail
  have e1:=heap_setCell_same w9 (w.heap.size+1) 0 _ _ (Value.slice r1 (atL gs.length St.zero).length rc1) h3
  have e2:=heap_setCell_same _ (w.heap.size+1) 1 _ _ (Value.slice r2 (aN gs.length St.zero).length rc2) e1
  have hB:Below w.heap.size w ((w9.setCell ⟨w.heap.size+1,0,none⟩ (.slice r1 (atL gs.length St.zero).length rc1)).setCell ⟨w.heap.size+1,1,none⟩ (.slice r2 (aN gs.length St.zero).length rc2)):=(HB9.setCell (p:=⟨w.heap.size+1,0,none⟩) (by show w.heap.size≤w.heap.size+1;omega) _).setCell (p:=⟨w.heap.size+1,1,none⟩) (by show w.heap.size≤w.heap.size+1;omega) _
  have hI1:aG w.heap.size ((w9.setCell ⟨w.heap.size+1,0,none⟩ (.slice r1 (atL gs.length St.zero).length rc1)).setCell ⟨w.heap.size+1,1,none⟩ (.slice r2 (aN gs.length St.zero).length rc2)) (.slice r1 (atL gs.length St.zero).length rc1) (atL gs.length St.zero):=((hu1.setOld _ hi3).setOld _ hi3).base hw8
  have hI2:aG w.heap.size ((w9.setCell ⟨w.heap.size+1,0,none⟩ (.slice r1 (atL gs.length St.zero).length rc1)).setCell ⟨w.heap.size+1,1,none⟩ (.slice r2 (aN gs.length St.zero).length rc2)) (.slice r2 (aN gs.length St.zero).length rc2) (aN gs.length St.zero):=((hu2.setOld _ hi3).setOld _ hi3).base hw8
  clear q0 q1 f0 f1 hu1 hu2 HB9
  generalize (w9.setCell ⟨w.heap.size+1,0,none⟩ (.slice r1 (atL gs.length St.zero).length rc1)).setCell ⟨w.heap.size+1,1,none⟩ (.slice r2 (aN gs.length St.zero).length rc2)=W at *
  have t0:W.cell? ⟨w.heap.size+1,0,none⟩=some (Value.slice r1 (atL gs.length St.zero).length rc1):=aa e2 0
  have t1:W.cell? ⟨w.heap.size+1,1,none⟩=some (Value.slice r2 (aN gs.length St.zero).length rc2):=aa e2 1
  refine bodyPost_ret (v:=.tuple #[.agg #[.slice r1 (atL gs.length St.zero).length rc1,.slice r2 (aN gs.length St.zero).length rc2],.int .i64 0]) (by simp[results,Tryz.results7,go_sem,t0,t1]) rfl ?_
  exact⟨hB,Or.inr ⟨hS,_,rfl,⟨_,_,rfl,hI1,hI2⟩⟩⟩
end Go.Proofs.YtlkniohhalnjjaaGreatDoor
