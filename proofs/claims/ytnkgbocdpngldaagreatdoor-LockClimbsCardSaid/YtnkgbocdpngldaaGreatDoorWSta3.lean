/- Lemmas of this claim. -/
import Derived.Test.YtnkgbocdpngldaaGreatDoorWMach
import Derived.Test.YtnkgbocdpngldaaGreatDoorWRun
import Derived.Test.YtnkgbocdpngldaaGreatDoorWSta2
set_option linter.all false
set_option maxRecDepth 100000
set_option maxHeartbeats 8000000
namespace Go.Proofs.YtnkgbocdpngldaaGreatDoor
open Go.RowKit Dc Dg
def stV (y:St):Value:=.agg #[.int .i64 y.a0,.int .i64 y.a1,.int .i64 y.a2,.int .i64 y.f0,.int .i64 y.f1,.int .i64 y.f2]
def oX (gs:List Gd) (al fl:List Int) (n:Int):Prop:=(a8 gs=false∧n=40)∨(a8 gs=true∧n=41∧∀ z,¬ dC gs al fl z)
def xT (gs:List Gd) (p:Option Addr) (c:Nat) (al fl:List Int) (w:World) (e:Ending) (w':World):Prop :=
 Below w.heap.size w w'∧((∃ n,oX gs al fl n∧e=.returned (.tuple #[.pointer none,stV St.zero,.int .i64 n])) ∨
  (∃ (y:St) (m:Nat) (vn vb:Value) (mb N s:Nat) (f:Nat×Nat→Option Value),a8 gs=true∧dC gs al fl y∧ec w' m gs p c vn vb mb N s f∧e=.returned (.tuple #[.pointer (some ⟨m,0,none⟩),stV y,.int .i64 0])))
theorem Ca (gs:List Gd) (p:Option Addr) (c:Nat) (w:World) (v:Value) (al fl:List Int) (hP:fm w p c gs) (hQ:l_ w v al fl) :
  Calls Tryz.prog 59 #[.agg #[.slice p gs.length c],v] w (xT gs p c al fl w):=by
 obtain⟨u1,u2,rfl,hI1,hI2⟩:=hQ.at_
 obtain⟨p1,c1,rfl,-⟩:=hI1.at_
 obtain⟨p2,c2,rfl,-⟩:=hI2.at_
 have hb1:Below w.heap.size w (((w.alloc (.cells #[.slice p gs.length c] 24)).alloc (.cells #[.slice p1 al.length c1,.slice p2 fl.length c2] 41)).alloc (.cells #[.int .i64 0,.int .i64 0,.int .i64 0,.int .i64 0,.int .i64 0,.int .i64 0] 87)):=(((Below.refl _ _).alloc (Dp _) _).alloc (by simp) _).alloc (by simp;omega) _
 have s0:(((w.alloc (.cells #[.slice p gs.length c] 24)).alloc (.cells #[.slice p1 al.length c1,.slice p2 fl.length c2] 41)).alloc (.cells #[.int .i64 0,.int .i64 0,.int .i64 0,.int .i64 0,.int .i64 0,.int .i64 0] 87)).heap[w.heap.size]?=some (.cells #[.slice p gs.length c] 24 (0,0)):=(heap_alloc_old _ _ (by simp;omega)).trans ((heap_alloc_old _ _ (by simp)).trans (heap_alloc_new _ _))
 have s1:(((w.alloc (.cells #[.slice p gs.length c] 24)).alloc (.cells #[.slice p1 al.length c1,.slice p2 fl.length c2] 41)).alloc (.cells #[.int .i64 0,.int .i64 0,.int .i64 0,.int .i64 0,.int .i64 0,.int .i64 0] 87)).heap[w.heap.size+1]?=some (.cells #[.slice p1 al.length c1,.slice p2 fl.length c2] 41 (0,0)):=by
  refine (heap_alloc_old _ _ (by simp)).trans ?_
  have:=heap_alloc_new (w.alloc (.cells #[.slice p gs.length c] 24)) (.cells #[.slice p1 al.length c1,.slice p2 fl.length c2] 41)
  simpa using this
 have s2:StP (((w.alloc (.cells #[.slice p gs.length c] 24)).alloc (.cells #[.slice p1 al.length c1,.slice p2 fl.length c2] 41)).alloc (.cells #[.int .i64 0,.int .i64 0,.int .i64 0,.int .i64 0,.int .i64 0,.int .i64 0] 87)) (w.heap.size+1+1) St.zero:=by
  have:=StP.new ((w.alloc (.cells #[.slice p gs.length c] 24)).alloc (.cells #[.slice p1 al.length c1,.slice p2 fl.length c2] 41)) St.zero
  have hz:((w.alloc (.cells #[.slice p gs.length c] 24)).alloc (.cells #[.slice p1 al.length c1,.slice p2 fl.length c2] 41)).heap.size=w.heap.size+1+1:=by simp
  rw[hz] at this
  exact this
 have P1:=hP.below hb1
 have Q1:=hQ.below hb1
 have c0:=af s0 0
 go_enter Tryz.func59,Tryz.ntmps59
 go_upto_region 1 with fail
 generalize ((w.alloc (.cells #[.slice p gs.length c] 24)).alloc (.cells #[.slice p1 al.length c1,.slice p2 fl.length c2] 41)).alloc (.cells #[.int .i64 0,.int .i64 0,.int .i64 0,.int .i64 0,.int .i64 0,.int .i64 0] 87)=w1 at *
 go_wp2_with fail
 refine P1.check.mono ?_
 rintro e w2 ⟨rfl,hb2⟩
 have P2:=P1.below hb2
 have Q2:=Q1.below hb2
 have t0:=(hb2.block _ (aw s0)).trans s0
 have t1:=(hb2.block _ (aw s1)).trans s1
 have t2:=s2.below hb2
 have HB2:=hb1.trans (hb2.mono hb1.size)
 clear s0 s1 s2 hb2 hb1 P1 Q1 c0
 cases hS:a8 gs
 ·simp only[Ed,if_false]
  have q0:=t2.cell 0;have q1:=t2.cell 1;have q2:=t2.cell 2;have q3:=t2.cell 3;have q4:=t2.cell 4;have q5:=t2.cell 5
  have f0:=t2.fr 0;have f1:=t2.fr 1;have f2:=t2.fr 2;have f3:=t2.fr 3;have f4:=t2.fr 4;have f5:=t2.fr 5
  go_wp2_with fail
  all_goals
   change bodyPost _ _ _ _ _ (bF w2 (w.heap.size+1+1) St.zero)
   have SP:=t2.put St.zero
   have hB:Below w.heap.size w (bF w2 (w.heap.size+1+1) St.zero):=HB2.trans (cc (by omega))
   generalize bF w2 (w.heap.size+1+1) St.zero=W at SP hB ⊢
   have q0:=SP.cell 0;have q1:=SP.cell 1;have q2:=SP.cell 2;have q3:=SP.cell 3;have q4:=SP.cell 4;have q5:=SP.cell 5
   refine bodyPost_ret (v:=.tuple #[.pointer none,stV St.zero,.int .i64 40]) (by unfold stV;simp[results,Tryz.results59,go_sem,q0,q1,q2,q3,q4,q5]) rfl ⟨hB,Or.inl ⟨40,Or.inl ⟨hS,rfl⟩,rfl⟩⟩
 ·simp only[if_true]
  have c0:=af t0 0
  go_wp2_with fail
  refine (BQ gs p c w2 P2.G hS).mono ?_
  rintro e w3 ⟨mB,vn,vb,mb,Nm,sm,f,rfl,hMP,hMZ,hb3⟩
  have Q3:=Q2.below hb3
  have k0:=(hb3.block _ (aw t0)).trans t0
  have k1:=(hb3.block _ (aw t1)).trans t1
  have k2:=t2.below hb3
  have HK2:=Do k2
  have HB3:=HB2.trans (hb3.mono HB2.size)
  clear t0 t1 t2 hb3 HB2 Q2 c0
  have d0:=af k1 0
  have d1:=af k1 1
  go_upto_region 5 with fail
  refine wp_region_lit ?_
  refine wpList_plain rfl (fun K hK=>?_)
  go_simp
  refine hK _ _ ?_
  clear hK K
  try simp only[Act.put,Dn,Dl,Dm,Di,Dk,Dj]
  refine wpList_plain rfl (fun K hK=>?_)
  go_simp
  refine hK _ _ ?_
  clear hK K
  try simp only[Act.put,Dn,Dl,Dm,Di,Dk,Dj]
  refine wpList_plain rfl (fun K hK=>?_)
  go_simp
  refine (Am gs p c vn vb mb Nm sm f w3 mB (.agg #[.slice p1 al.length c1,.slice p2 fl.length c2]) al fl hMP (jG hS) hS Q3).mono ?_
  rintro e w4 ⟨y,ok,rfl,hok,hno,hb4⟩
  refine hK _ _ ?_
  clear hK K
  try simp only[Act.put,Dn,Dl,Dm,Di,Dk,Dj]
  have r2:=k2.below hb4
  have HB34:=Do hb4
  have HB4:=HB3.trans (hb4.mono HB3.size)
  clear k0 k1 k2 hb4 HB3 Q3 d0 d1
  refine wpList_plain rfl (fun K hK=>?_)
  go_simp
  refine hK _ _ ?_
  clear hK K
  try simp only[Act.put,Dn,Dl,Dm,Di,Dk,Dj]
  refine wpList_plain rfl (fun K hK=>?_)
  go_simp
  refine hK _ _ ?_
  clear hK K
  try simp only[Act.put,Dn,Dl,Dm,Di,Dk,Dj]
  refine wpList_plain rfl (fun K hK=>?_)
  go_simp
  refine hK _ _ ?_
  clear hK K
  try simp only[Act.put,Dn,Dl,Dm,Di,Dk,Dj]
  refine wpList_plain rfl (fun K hK=>?_)
  go_simp
  refine hK _ _ ?_
  clear hK K
  try simp only[Act.put,Dn,Dl,Dm,Di,Dk,Dj]
  have z0:StP (w4.alloc (.cells #[.int .i64 0,.int .i64 0,.int .i64 0,.int .i64 0,.int .i64 0,.int .i64 0] 87)) w4.heap.size St.zero:=StP.new w4 St.zero
  have hB5:Below w4.heap.size w4 (w4.alloc (.cells #[.int .i64 0,.int .i64 0,.int .i64 0,.int .i64 0,.int .i64 0,.int .i64 0] 87)):=(Below.refl _ _).alloc (Dp _) _
  generalize w4.alloc (.cells #[.int .i64 0,.int .i64 0,.int .i64 0,.int .i64 0,.int .i64 0,.int .i64 0] 87)=w5 at z0 hB5 ⊢
  have q0:=z0.cell 0;have q1:=z0.cell 1;have q2:=z0.cell 2;have q3:=z0.cell 3;have q4:=z0.cell 4;have q5:=z0.cell 5
  have f0:=z0.fr 0;have f1:=z0.fr 1;have f2:=z0.fr 2;have f3:=z0.fr 3;have f4:=z0.fr 4;have f5:=z0.fr 5
  refine wpList_plain rfl (fun K hK=>?_)
  go_simp
  refine hK _ _ ?_
  clear hK K q0 q1 q2 q3 q4 q5 f0 f1 f2 f3 f4 f5
  try simp only[Act.put,Dn,Dl,Dm,Di,Dk,Dj]
  change wpList _ _ _ _ _ (bF w5 w4.heap.size y)
  have SP:=z0.put y
  have hB6:=hB5.trans (cc (w:=w5) (b:=w4.heap.size) (z:=y) (Dp _))
  generalize bF w5 w4.heap.size y=w6 at SP hB6 ⊢
  have HB36:=Do (HB34.out.trans (hB6.mono HB34.out.size))
  have r6:=r2.below hB6
  have HB6:=HB4.trans (hB6.mono HB4.size)
  clear r2 HB4 z0 hB5 hB6
  cases ok
  ·have hEnd:Hid (xT gs p c al fl w (.returned (.tuple #[.pointer none,stV St.zero,.int .i64 41])) (bF w6 (w.heap.size+1+1) St.zero)):=⟨HB6.trans (cc (by omega)),Or.inl ⟨41,Or.inr ⟨hS,rfl,hno rfl⟩,rfl⟩⟩
   clear hno hok
   have q0:=r6.cell 0;have q1:=r6.cell 1;have q2:=r6.cell 2;have q3:=r6.cell 3;have q4:=r6.cell 4;have q5:=r6.cell 5
   have f0:=r6.fr 0;have f1:=r6.fr 1;have f2:=r6.fr 2;have f3:=r6.fr 3;have f4:=r6.fr 4;have f5:=r6.fr 5
   go_wp2_with fail
   change bodyPost _ _ _ _ _ (bF w6 (w.heap.size+1+1) St.zero)
   have SP2:=r6.put St.zero
   have hB:=hEnd.out
   clear q0 q1 q2 q3 q4 q5 f0 f1 f2 f3 f4 f5
   generalize bF w6 (w.heap.size+1+1) St.zero=W at SP2 hB ⊢
   have q0:=SP2.cell 0;have q1:=SP2.cell 1;have q2:=SP2.cell 2;have q3:=SP2.cell 3;have q4:=SP2.cell 4;have q5:=SP2.cell 5
   refine bodyPost_ret (v:=.tuple #[.pointer none,stV St.zero,.int .i64 41]) (by unfold stV;simp[results,Tryz.results59,go_sem,q0,q1,q2,q3,q4,q5]) rfl hB
  ·have hEnd:Hid (xT gs p c al fl w (.returned (.tuple #[.pointer (some ⟨mB,0,none⟩),stV y,.int .i64 0])) (bF w6.drew (w.heap.size+1+1) y)):=by
    have hd:Below w6.heap.size w6 w6.drew:=below_drewN (Below.refl w6.heap.size w6) 1
    have h3:Below w3.heap.size w3 w6.drew:=HB36.out.trans (hd.mono HB36.out.size)
    have hB:Below w.heap.size w (bF w6.drew (w.heap.size+1+1) y):=(HB6.trans (hd.mono HB6.size)).trans (cc (by omega))
    have hsz:(bF w6.drew (w.heap.size+1+1) y).heap.size=w6.drew.heap.size:=by simp[bF]
    exact⟨hB,Or.inr ⟨y,mB,vn,vb,mb,Nm,sm,f,hS,hok rfl,hMZ (w.heap.size+1+1) _ (fun _=>⟨_,_,HK2.out⟩) (by rw[hsz];exact h3.size) (fun k hk hne=>(mC hne).trans (h3.block k hk)) (hP.G.below hB),rfl⟩⟩
   have hSt:(fun wy:World=>StP wy w4.heap.size y) w6.drew:=SP.below (below_drewN (Below.refl w6.heap.size w6) 1)
   have r7:StP w6.drew (w.heap.size+1+1) St.zero:=r6.below (below_drewN (Below.refl w6.heap.size w6) 1)
   clear hok hno r6 SP HB6
   go_wp2_with fail
   refine au (fun wy:World=>StP wy w4.heap.size y) (fun i=>Nat.beq i 3) (by kernel_rfl) ?_
   generalize w6.drew=w7 at hEnd hSt r7 ⊢
   refine ae (i:=0) (v:=?vv1) rfl (by kernel_rfl) (fun _ _ _ h=>h) rfl ?hy1 ?rest1
   case hy1=>(intro wy;go_simp;try with_reducible rfl)
   try simp only[Act.put,Dn,Dl,Dm,Di,Dk,Dj]
   refine ak (i:=1) (v:=?vvl) rfl (by kernel_rfl) (fun _ _ _ h=>h) rfl hSt ?hyl ?restl
   case hyl =>
    intro wy hy
    have hy':StP wy w4.heap.size y:=hy
    have q0:=hy'.cell 0;have q1:=hy'.cell 1;have q2:=hy'.cell 2;have q3:=hy'.cell 3;have q4:=hy'.cell 4;have q5:=hy'.cell 5
    clear hy hy'
    go_simp
    try with_reducible rfl
   try simp only[Act.put,Dn,Dl,Dm,Di,Dk,Dj]
   refine ae (i:=2) (v:=?vv2) rfl (by kernel_rfl) (fun _ _ _ h=>h) rfl ?hy2 ?rest2
   case hy2=>(intro wy;go_simp;try with_reducible rfl)
   try simp only[Act.put,Dn,Dl,Dm,Di,Dk,Dj]
   have q0:=r7.cell 0;have q1:=r7.cell 1;have q2:=r7.cell 2;have q3:=r7.cell 3;have q4:=r7.cell 4;have q5:=r7.cell 5
   have f0:=r7.fr 0;have f1:=r7.fr 1;have f2:=r7.fr 2;have f3:=r7.fr 3;have f4:=r7.fr 4;have f5:=r7.fr 5
   refine am (i:=3) rfl (by kernel_rfl) rfl (fun K hK=>?_)
   go_simp
   change K _ (bF w7 (w.heap.size+1+1) y)
   refine hK _ _ (fun h=>by cases h) ?_
   clear hK K q0 q1 q2 q3 q4 q5 f0 f1 f2 f3 f4 f5
   try simp only[Act.put,Dn,Dl,Dm,Di,Dk,Dj]
   refine ae (i:=4) (v:=?vv3) rfl (by kernel_rfl) (fun _ _ _ h=>h) rfl ?hy3 ?rest3
   case hy3=>(intro wy;go_simp;try with_reducible rfl)
   try simp only[Act.put,Dn,Dl,Dm,Di,Dk,Dj]
   try simp only[Act.put,Dn,Dl,Dm,Di,Dk,Dj]
   refine aA (by kernel_rfl) ?_ _
   have SP2:=r7.put y
   have hB:=hEnd.out
   generalize bF w7 (w.heap.size+1+1) y=W at SP2 hB ⊢
   have q0:=SP2.cell 0;have q1:=SP2.cell 1;have q2:=SP2.cell 2;have q3:=SP2.cell 3;have q4:=SP2.cell 4;have q5:=SP2.cell 5
   go_wp2_with fail
   refine bodyPost_ret (v:=.tuple #[.pointer (some ⟨mB,0,none⟩),stV y,.int .i64 0]) (by unfold stV;simp[results,Tryz.results59,go_sem,q0,q1,q2,q3,q4,q5]) rfl hB
def ChkQ (gs:List Gd) (al fl:List Int) (w:World) (e:Ending) (w':World):Prop:=∃ n:Int,e=.returned (.int .i64 n)∧((n≠0∧oX gs al fl n)∨(n=0∧a8 gs=true∧∃ y,dC gs al fl y))∧Below w.heap.size w w'
theorem ki:∀ (l:List Rg) (s:List UInt8) (k i:Nat),cO l s k=(i:Int)→∃ h:i-k<l.length,k≤i∧l[i-k].name.data.toList=s
 | [],s,k,i,h=>by unfold cO at h;omega
 | r :: l,s,k,i,h=>by
  unfold cO at h
  split at h
  ·rename_i hn
   have:i=k:=by omega
   subst this
   exact⟨by simp,Dp _,by simpa using hn⟩
  ·obtain⟨h1,h2,h3⟩:=ki l s (k+1) i h
   have e:i-k=(i-(k+1))+1:=by omega
   refine⟨by rw[e];simp;omega,by omega,?_⟩
   simp only[e,Dl]
   exact h3
theorem oy {l:List Rg}{s:List UInt8}{i:Nat} (h:aG l s=(i:Int)):∃ h:i<l.length,l[i].name.data.toList=s:=by
 obtain⟨h1,_,h3⟩:=ki l s 0 i h
 exact⟨by simpa using h1,by simpa using h3⟩
theorem lh {gs:List Gd}{g k:Nat} (hk:k<(ag gs g).length):aO gs g k=(ag gs g)[k]:=by
 unfold aO
 rw[Dq hk]
def fB (M:aB) (x:St):Bool:=(List.range M.n).all fun g=>decide (M.next g (x.a g).toNat<0)
theorem sf {M:aB}{x:St}{g:Nat} (hg:g<M.n) (h:¬ M.next g (x.a g).toNat<0):fB M x=false:=by
 unfold fB
 rw[EE]
 exact⟨g,DG.2 hg,by simpa using h⟩
theorem pN {M:aB}{x:St} (h:∀ g,g<M.n→M.next g (x.a g).toNat<0):fB M x=true:=by
 unfold fB
 rw[DO]
 exact fun g hg=>decide_eq_true (h g (DG.1 hg))
theorem eL.new (w:World) (x:St):eL (w.alloc (.cells #[.int .i64 x.a0,.int .i64 x.a1,.int .i64 x.a2] 85)) w.heap.size x:=⟨by simp,an w _ _ 0 _ rfl,an w _ _ 1 _ rfl,an w _ _ 2 _ rfl⟩
theorem eL.a {w:World}{k g:Nat}{x:St} (h:eL w k x) (hg:g<3):w.cell? ⟨k,g,none⟩=some (.int .i64 (x.a g)):=by
 rcases lt3 hg with rfl | rfl | rfl
 ·exact h.h0
 ·exact h.h1
 ·exact h.h2
theorem Ci (gs:List Gd) (p:Option Addr) (c:Nat) (vn vb:Value) (mb N s:Nat) (f:Nat×Nat→Option Value) (w:World) (m:Nat) (x:St) (hP:ec w m gs p c vn vb mb N s f) (hS:a8 gs=true) (hx:(ah gs).At x) :
  Calls Tryz.prog 62 #[.pointer (some ⟨m,0,none⟩),.agg #[.int .i64 x.a0,.int .i64 x.a1,.int .i64 x.a2]] w (fun e w'=>e=.returned (.bool (fB (ah gs) x))∧Below w.heap.size w w'):=by
 obtain⟨hn1,hn3⟩:=bN hS
 have hb1:Below w.heap.size w (w.alloc (.cells #[.int .i64 x.a0,.int .i64 x.a1,.int .i64 x.a2] 85)):=(Below.refl _ _).alloc (Dp _) _
 have k1:=eL.new w x
 go_enter Tryz.func62,Tryz.ntmps62
 go_upto_region 1 with fail
 generalize w.alloc (.cells #[.int .i64 x.a0,.int .i64 x.a1,.int .i64 x.a2] 85)=w1 at *
 have HP:=Do (hP.below hb1)
 have m0:=HP.out.m0
 go_wp2_with fail
 clear m0
 have HK:=Do k1
 clear k1 hP
 go_loopw [12] (fun s12 wr=>∃ i:Nat,s12=.int .i64 i∧i≤gs.length∧Below w1.heap.size w1 wr∧Hid (∀ j,j<i→(ah gs).next j (x.a j).toNat<0)) (fun s12 _=>gs.length-(intOf s12).toNat)
 case atStart=>exact⟨0,rfl,by omega,Below.refl _ _,fun j hj=>by omega⟩
 case round =>
  obtain⟨i,rfl,hi,hbr,hnx⟩:=hrel
  by_cases hil:i<gs.length
  ·have hi3:i<3:=by omega
   have hi3I:(i:Int)<3:=by omega
   have hilI:(i:Int)<(gs.length:Int):=by omega
   have ha:=hx.a i hil
   have hrr:(ah gs).rungs i=(ag gs i).length:=rfl
   obtain⟨k,hk⟩:∃ k:Nat,x.a i=(k:Int):=⟨(x.a i).toNat,by omega⟩
   obtain⟨bg,og,cg,bn,on,cn,bb,ob,cb,bu,ou,cu,bv,ov,cv,br,orr,cr,hN⟩:=mY HP.out hil (show k<(ag gs i).length by omega)
   have NB:=hN.below hbr
   have n0:=NB.n0;have n1:=NB.n1;have n2:=NB.n2
   have c0:=(HK.out.below hbr).a hi3
   rw[hk] at c0
   have hkI:(k:Int)<((ag gs i).length:Int):=by omega
   obtain⟨nx,hnx2⟩:∃ nx,Hid ((ah gs).next i k=nx):=⟨_,rfl⟩
   rw[hnx2.out] at n2
   have HKK:=Do (show (x.a i).toNat=k by rw[hk,DC])
   clear NB hN ha hrr hk
   by_cases h:0≤nx
   ·have hd:decide ((0:Int)≤nx)=true:=by simp;omega
    have H:=Do h
    clear h
    go_wp2_with fail
    go_quiet (fail)
    go_wp2_with fail
    go_ret
    exact⟨by rw[sf (show i<(ah gs).n from hil) (by rw[HKK.out,hnx2.out];have:=H.out;omega)];rfl,below_drewN (hb1.trans (hbr.mono hb1.size)) _⟩
   ·have hd:decide ((0:Int)≤nx)=false:=by simp;omega
    have H:=Do h
    clear h
    go_wp2_with fail
    go_quiet (fail)
    go_wp2_with fail
    go_roundw
    case rel =>
     refine⟨i+1,by go_num,by omega,below_drewN hbr _,fun j hj=>?_⟩
     by_cases hji:j=i
     ·subst hji;rw[HKK.out,hnx2.out];have:=H.out;omega
     ·exact hnx.out j (by omega)
    case measure=>simp[intOf];omega
  ·obtain rfl:i=gs.length:=by omega
   clear hil
   go_wp2_with fail
   go_ret
   exact⟨by rw[pN (fun g hg=>hnx.out g hg)];rfl,hb1.trans (hbr.mono hb1.size)⟩
def lY (v:Ev):Bool:=decide (v.k=0)
theorem winN (v:Ev) (w:World):Calls Tryz.prog 60 (kN v) w (fun e w'=>e=.returned (.bool (lY v))∧Below w.heap.size w w'):=by
 unfold kN
 have e0:=an w #[.int .i64 v.g,.int .i64 v.k] 53 0 _ rfl
 have e1:=an w #[.int .i64 v.g,.int .i64 v.k] 53 1 _ rfl
 have hb:Below w.heap.size w (w.alloc (.cells #[.int .i64 v.g,.int .i64 v.k] 53)):=(Below.refl _ _).alloc (Dp _) _
 go_enter Tryz.func60,Tryz.ntmps60
 go_upto_region 1 with fail
 generalize w.alloc (.cells #[.int .i64 v.g,.int .i64 v.k] 53)=w1 at *
 go_wp2_with fail
 go_ret
 refine⟨?_,hb⟩
 unfold lY
 by_cases h:v.k=0<;>simp[h]<;>rfl
theorem Bb (gs:List Gd) (p:Option Addr) (c:Nat) (vn vb:Value) (mb N s:Nat) (f:Nat×Nat→Option Value) (w:World) (m k:Nat) (y:St) (hP:ec w m gs p c vn vb mb N s f) (hS:a8 gs=true) (hy:(ah gs).At y) (hk:w.cell? ⟨k,0,none⟩=some (.pointer (some ⟨m,0,none⟩))) :
  Calls Tryz.prog 61 #[.agg #[.int .i64 y.a0,.int .i64 y.a1,.int .i64 y.a2,.int .i64 y.f0,.int .i64 y.f1,.int .i64 y.f2],.pointer (some ⟨k,0,none⟩)] w (fun e w'=>e=.returned (.bool (fB (ah gs) y))∧Below w.heap.size w w'):=by
 have hb:Below w.heap.size w (w.alloc (.cells #[.int .i64 y.a0,.int .i64 y.a1,.int .i64 y.a2,.int .i64 y.f0,.int .i64 y.f1,.int .i64 y.f2] 87)):=(Below.refl _ _).alloc (Dp _) _
 have hkl:k<w.heap.size:=block_lt_of_cell hk
 have S1:=StP.new w y
 have k1:=(hb.cell (p:=⟨k,0,none⟩) hkl).trans hk
 have M1:=hP.below hb
 go_enter Tryz.func61,Tryz.ntmps61
 go_upto_region 1 with fail
 generalize w.alloc (.cells #[.int .i64 y.a0,.int .i64 y.a1,.int .i64 y.a2,.int .i64 y.f0,.int .i64 y.f1,.int .i64 y.f2] 87)=w1 at *
 have c0:=S1.cell 0;have c1:=S1.cell 1;have c2:=S1.cell 2;have c3:=S1.cell 3;have c4:=S1.cell 4;have c5:=S1.cell 5
 go_wp2_with fail
 refine (Ci gs p c vn vb mb N s f w1 m y M1 hS hy).mono ?_
 rintro e w7 ⟨rfl,hb7⟩
 go_wp2_with fail
 go_ret
 exact⟨rfl,hb.trans (hb7.mono hb.size)⟩
theorem xT.two {gs:List Gd}{p:Option Addr}{c:Nat}{al fl:List Int}{w w':World}{e:Ending} (h:xT gs p c al fl w e w') :
  ∃ (pm:Option Addr) (y:St) (n:Int),e=.returned (.tuple #[.pointer pm,.agg #[.int .i64 y.a0,.int .i64 y.a1,.int .i64 y.a2,.int .i64 y.f0,.int .i64 y.f1,.int .i64 y.f2],.int .i64 n]) ∧
   ((n≠0∧oX gs al fl n)∨(n=0∧a8 gs=true∧dC gs al fl y∧∃ (m:Nat) (vn vb:Value) (mb N s:Nat) (f:Nat×Nat→Option Value),pm=some ⟨m,0,none⟩∧ec w' m gs p c vn vb mb N s f))∧Below w.heap.size w w':=by
 obtain⟨hb,⟨n,hn,rfl⟩ | ⟨y,m,vn,vb,mb,N,s,f,hS,hk,hM,rfl⟩⟩:=h
 ·refine⟨_,St.zero,n,rfl,Or.inl ⟨?_,hn⟩,hb⟩
  rcases hn with ⟨_,rfl⟩ | ⟨_,rfl,_⟩<;>decide
 ·exact⟨_,y,0,rfl,Or.inr ⟨rfl,hS,hk,m,vn,vb,mb,N,s,f,rfl,hM⟩,hb⟩
def lD (gs:List Gd) (y:St):List Ev×Int:=match aY (ah gs) y lY (fB (ah gs)) with | (some z,R)=>(gW R z,0) | (none,_)=>([],4)
def mZ (gs:List Gd) (al fl:List Int) (w:World) (e:Ending) (w':World):Prop :=
 Below w.heap.size w w'∧((∃ n,n≠0∧oX gs al fl n∧e=.returned (.tuple #[.slice none 0 0,.int .i64 n])) ∨
  (∃ y v,a8 gs=true∧dC gs al fl y∧e=.returned (.tuple #[v,.int .i64 (lD gs y).2])∧EvR w.heap.size w' v (lD gs y).1))
theorem Cc (gs:List Gd) (p:Option Addr) (c:Nat) (w:World) (v:Value) (al fl:List Int) (hP:fm w p c gs) (hQ:l_ w v al fl) :
  Calls Tryz.prog 22 #[.agg #[.slice p gs.length c],v] w (mZ gs al fl w):=by
 obtain⟨u1,u2,rfl,hI1,hI2⟩:=hQ.at_
 obtain⟨p1,c1,rfl,-⟩:=hI1.at_
 obtain⟨p2,c2,rfl,-⟩:=hI2.at_
 have hb1:Below w.heap.size w ((w.alloc (.cells #[.slice p gs.length c] 24)).alloc (.cells #[.slice p1 al.length c1,.slice p2 fl.length c2] 41)):=((Below.refl _ _).alloc (Dp _) _).alloc (by simp) _
 have s0:((w.alloc (.cells #[.slice p gs.length c] 24)).alloc (.cells #[.slice p1 al.length c1,.slice p2 fl.length c2] 41)).heap[w.heap.size]?=some (.cells #[.slice p gs.length c] 24 (0,0)):=(heap_alloc_old _ _ (by simp)).trans (heap_alloc_new _ _)
 have s1:((w.alloc (.cells #[.slice p gs.length c] 24)).alloc (.cells #[.slice p1 al.length c1,.slice p2 fl.length c2] 41)).heap[w.heap.size+1]?=some (.cells #[.slice p1 al.length c1,.slice p2 fl.length c2] 41 (0,0)):=by
  have:=heap_alloc_new (w.alloc (.cells #[.slice p gs.length c] 24)) (.cells #[.slice p1 al.length c1,.slice p2 fl.length c2] 41)
  simpa using this
 have P1:=hP.below hb1
 have Q1:=hQ.below hb1
 have x0:=af s0 0
 have x1:=af s1 0
 have x2:=af s1 1
 go_enter Tryz.func22,Tryz.ntmps22
 go_upto_region 1 with fail
 generalize (w.alloc (.cells #[.slice p gs.length c] 24)).alloc (.cells #[.slice p1 al.length c1,.slice p2 fl.length c2] 41)=w1 at *
 refine wp_region_lit ?_
 refine wpList_plain rfl (fun K hK=>?_)
 go_simp
 refine hK _ _ ?_
 clear hK K
 try simp only[Act.put,Dn,Dl,Dm,Di,Dk,Dj]
 refine wpList_plain rfl (fun K hK=>?_)
 go_simp
 refine hK _ _ ?_
 clear hK K
 try simp only[Act.put,Dn,Dl,Dm,Di,Dk,Dj]
 refine wpList_plain rfl (fun K hK=>?_)
 go_simp
 refine (Ca gs p c w1 (.agg #[.slice p1 al.length c1,.slice p2 fl.length c2]) al fl P1 Q1).mono ?_
 intro e w2 hq
 obtain⟨pm,y,n,rfl,hq,hb2⟩:=hq.two
 refine hK _ _ ?_
 clear hK K
 try simp only[Act.put,Dn,Dl,Dm,Di,Dk,Dj]
 clear s0 s1 x0 x1 x2 P1 Q1
 have HB2:=hb1.trans (hb2.mono hb1.size)
 clear hb2 hb1
 refine wpList_plain rfl (fun K hK=>?_)
 go_simp
 refine hK _ _ ?_
 clear hK K
 try simp only[Act.put,Dn,Dl,Dm,Di,Dk,Dj]
 refine wpList_plain rfl (fun K hK=>?_)
 go_simp
 refine hK _ _ ?_
 clear hK K
 try simp only[Act.put,Dn,Dl,Dm,Di,Dk,Dj]
 refine wpList_plain rfl (fun K hK=>?_)
 go_simp
 refine hK _ _ ?_
 clear hK K
 try simp only[Act.put,Dn,Dl,Dm,Di,Dk,Dj]
 refine wpList_plain rfl (fun K hK=>?_)
 go_simp
 refine hK _ _ ?_
 clear hK K
 try simp only[Act.put,Dn,Dl,Dm,Di,Dk,Dj]
 have a1:=heap_alloc_new w2 (.cells #[.pointer none] 78)
 have hb3:Below w2.heap.size w2 (w2.alloc (.cells #[.pointer none] 78)):=(Below.refl _ _).alloc (Dp _) _
 refine wpList_plain rfl (fun K hK=>?_)
 go_simp
 refine hK _ _ ?_
 clear hK K
 try simp only[Act.put,Dn,Dl,Dm,Di,Dk,Dj]
 generalize w2.alloc (.cells #[.pointer none] 78)=w3 at a1 hb3 ⊢
 have z0:StP (w3.alloc (.cells #[.int .i64 0,.int .i64 0,.int .i64 0,.int .i64 0,.int .i64 0,.int .i64 0] 87)) w3.heap.size St.zero:=StP.new w3 St.zero
 have hb4:Below w3.heap.size w3 (w3.alloc (.cells #[.int .i64 0,.int .i64 0,.int .i64 0,.int .i64 0,.int .i64 0,.int .i64 0] 87)):=(Below.refl _ _).alloc (Dp _) _
 refine wpList_plain rfl (fun K hK=>?_)
 go_simp
 refine hK _ _ ?_
 clear hK K
 try simp only[Act.put,Dn,Dl,Dm,Di,Dk,Dj]
 generalize w3.alloc (.cells #[.int .i64 0,.int .i64 0,.int .i64 0,.int .i64 0,.int .i64 0,.int .i64 0] 87)=w4 at z0 hb4 ⊢
 have a2:=(hb4.block _ (aw a1)).trans a1
 have q0:=af a2 0
 have f0:=frozen_of_row w4 w2.heap.size 0 _ _ a2
 refine wpList_plain rfl (fun K hK=>?_)
 go_simp
 refine hK _ _ ?_
 clear hK K
 try simp only[Act.put,Dn,Dl,Dm,Di,Dk,Dj]
 clear q0 f0
 have hlt3:w2.heap.size<w3.heap.size:=aw a1
 have a3:(w4.setCell ⟨w2.heap.size,0,none⟩ (.pointer pm)).heap[w2.heap.size]?=some (.cells #[.pointer pm] 78 (0,0)):=heap_setCell_same w4 w2.heap.size 0 _ _ (.pointer pm) a2
 have z1:StP (w4.setCell ⟨w2.heap.size,0,none⟩ (.pointer pm)) w3.heap.size St.zero:=by unfold StP;rw[Below.heap_setCell _ _ _ _ (by show w3.heap.size≠w2.heap.size;omega)];exact z0
 have hb5:Below w2.heap.size w2 (w4.setCell ⟨w2.heap.size,0,none⟩ (.pointer pm)):=(hb3.trans (hb4.mono hb3.size)).setCell (p:=⟨w2.heap.size,0,none⟩) (Dp _) _
 generalize w4.setCell ⟨w2.heap.size,0,none⟩ (.pointer pm)=w5 at a3 z1 hb5 ⊢
 have q0:=z1.cell 0;have q1:=z1.cell 1;have q2:=z1.cell 2;have q3:=z1.cell 3;have q4:=z1.cell 4;have q5:=z1.cell 5
 have f0:=z1.fr 0;have f1:=z1.fr 1;have f2:=z1.fr 2;have f3:=z1.fr 3;have f4:=z1.fr 4;have f5:=z1.fr 5
 refine wpList_plain rfl (fun K hK=>?_)
 go_simp
 refine hK _ _ ?_
 clear hK K q0 q1 q2 q3 q4 q5 f0 f1 f2 f3 f4 f5
 try simp only[Act.put,Dn,Dl,Dm,Di,Dk,Dj]
 change wpList _ _ _ _ _ (bF w5 w3.heap.size y)
 have hb6:Below w2.heap.size w2 (bF w5 w3.heap.size y):=hb5.trans (cc (by omega))
 have SP:=z1.put y
 have a4:(bF w5 w3.heap.size y).heap[w2.heap.size]?=some (.cells #[.pointer pm] 78 (0,0)):=(mC (by omega)).trans a3
 clear a1 a2 a3 z0 z1 hb3 hb4 hb5
 generalize bF w5 w3.heap.size y=w6 at hb6 SP a4 ⊢
 have HB6:=HB2.trans (hb6.mono HB2.size)
 generalize w3.heap.size=sb at SP hlt3 ⊢
 rcases hq with ⟨hn0,hbe⟩ | ⟨rfl,hS,hok,m,vn,vb,mb,N,s,f,rfl,hM⟩
 ·have hd:(n != 0)=true:=by simp[hn0]
  have hEnd:Hid (mZ gs al fl w (.returned (.tuple #[.slice none 0 0,.int .i64 n])) w6):=⟨HB6,Or.inl ⟨n,hn0,hbe,rfl⟩⟩
  clear hn0 hbe SP a4
  go_wp2_with fail
  go_ret2
  exact hEnd.out
 ·have M6:=hM.below hb6
  have c0:=SP.cell 0;have c1:=SP.cell 1;have c2:=SP.cell 2;have c3:=SP.cell 3;have c4:=SP.cell 4;have c5:=SP.cell 5
  have a5:=af a4 0
  clear SP hM hb6
  have HCG:Hid (lD gs y=(match aY (ah gs) y lY (fB (ah gs)) with | (some z,R)=>(gW R z,0) | (none,_)=>([],4))):=rfl
  go_wp2_with fail
  refine (q_ gs p c vn vb mb N s f w6 m y M6 (jG hS) hS hok.at_ 60 61 #[] #[.pointer (some ⟨w2.heap.size,0,none⟩)] lY (fB (ah gs)) (eO Tryz.func60 (by kernel_rfl) (by decide)) (eO Tryz.func61 (by kernel_rfl) (by decide))
   (fun w' _ v _=>by rw[Array.append_empty];exact winN v w') (fun w' hb' z hz=>Bb gs p c vn vb mb N s f w' m w2.heap.size z (M6.below hb') hS hz (af ((hb'.block _ (aw a4)).trans a4) 0))).mono ?_
  rintro e w7 ⟨hb7,v7,mt,N7,s7,rfl,hT,hE,hmt⟩
  have hBz:=HB6.trans (hb7.mono HB6.size)
  have hsz:=HB6.size
  have hmg:=HCG.out
  clear HCG
  revert hT hE hmg
  generalize aY (ah gs) y lY (fB (ah gs))=res
  obtain⟨r1,R⟩:=res
  intro hT hE hmg
  cases r1 with
  | none =>
   simp only at hmg
   have HMG:=Do hmg
   clear hmg
   simp only[FB]
   go_wp2_with fail
   go_ret2
   exact⟨hBz,Or.inr ⟨y,_,hS,hok,by rw[HMG.out];rfl,by rw[HMG.out];exact World.ownsRow_nil _ _ _ _⟩⟩
  | some z =>
   simp only at hmg
   have HMG:=Do hmg
   clear hmg
   simp only[FC]
   go_wp2_with fail
   go_ret2
   exact⟨hBz,Or.inr ⟨y,_,hS,hok,by rw[HMG.out];rfl,by rw[HMG.out];exact eD hE hsz⟩⟩
end Go.Proofs.YtnkgbocdpngldaaGreatDoor
