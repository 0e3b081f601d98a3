/- Lemmas of this claim. -/
import Derived.OwnWalk
import Derived.Test.YtomkanblohhpfaaGreatDoorYPM5
set_option linter.all false
set_option maxRecDepth 100000
set_option maxHeartbeats 8000000
namespace Go.Proofs.YtomkanblohhpfaaGreatDoor
open Go.RowKit Go.Shelf Dg
theorem l7 {c x:CQ} (hc:SzV 300 (ct c)) (hx:SzV 2000 (ct x)):SzV 20000 (ct (atL [c] x)):=by
 show SzV 20000 (ct (((⟨0,0⟩:CQ).mul x).add c))
 rw[←dp,←bk]
 exact (((show SzV 1 (ct ⟨0,0⟩) from⟨.zero (by decide),.zero (by decide)⟩).times hx).plus hc).mono (by decide)
theorem rD {a c x:CQ} (ha:SzV 300 (ct a)) (hc:SzV 300 (ct c)) (hx:SzV 2000 (ct x)):SzV 20000 (ct (atL [a,c] x)):=by
 show SzV 20000 (ct (((((⟨0,0⟩:CQ).mul x).add c).mul x).add a))
 rw[←dp,←bk,←dp,←bk]
 exact (((((show SzV 1 (ct ⟨0,0⟩) from⟨.zero (by decide),.zero (by decide)⟩).times hx).plus hc).times hx).plus ha).mono (by decide)
/-- an element of the chain is short, and so is its value -/
theorem qR {zs : List CQ} (h : cV zs) (hs : SzL 300 zs) {x : CQ} (hx : SzV 2000 (ct x)) {i : Nat} {l : List CQ} (hl : (aT zs)[i]? = some l) : SzL 300 l ∧ l.length ≤ 7 ∧ SzV 20000 (ct (atL l x)) := by
  cases h with
  | one c h =>
    match i, hl with
    | 0, hl => obtain rfl : [c] = l := by simpa [aT] using hl
               exact ⟨hs, by simp, l7 (hs c (by simp)) hx⟩
    | i + 1, hl => simp [aT] at hl
  | two a c h =>
    match i, hl with
    | 0, hl => obtain rfl : [a, c] = l := by simpa [aT] using hl
               exact ⟨hs, by simp, rD (hs a (by simp)) (hs c (by simp)) hx⟩
    | 1, hl => obtain rfl : [c] = l := by simpa [aT] using hl
               refine ⟨fun z hz => ?_, by simp, l7 (hs c (by simp)) hx⟩
               exact hs z (by simp at hz; simp [hz])
    | i + 2, hl => simp [aT] at hl
theorem m_ (a b:Rat):-1≤gQ a b∧gQ a b≤1:=by
 unfold gQ
 split
 ·decide
 ·split<;>decide
theorem mW (a:Tmp) (v:Value) (t:Array Value):(#[a].zip #[v]).foldl (fun t (p,v)=>t.setIfInBounds p v) t=t.setIfInBounds a v:=by simp
def ChgI (w:World) (b3:Nat) (x0 x1 x2:Value) (x:Rat) (zs:List CQ) (i:Nat) (W:World):Prop :=
 ∃ n last:Int,lN x ((aT zs).take i)=(n,last)∧W.heap[b3]?=some (.cells #[x0,x1,x2] 79 (0,0))∧W.heap[b3+1]?=some (.cells #[.int .i64 n] 3 (0,0))∧W.heap[b3+1+1]?=some (.cells #[.int .i64 last] 3 (0,0))∧Below w.heap.size w W∧0≤n∧n≤i∧-1≤last∧last≤1
attribute [local go_sem] Oper.semAt_some
theorem lM (vp vx:Value) (zs:List CQ) (x:Rat) (w:World) (hp:IsP w vp zs) (hx:IsR w vx (rt x)) (hsx:Sz 2000 (rt x)) (h2:cV zs) (hs:SzL 300 zs) :
  Calls Tryz.prog 152 #[vp,vx] w fun e w'=>e=.returned (.int .i64 (bM zs x))∧Below w.heap.size w w':=by
 obtain⟨xm,xp,xl,xc,xq,xk,xd,rfl⟩:=hx.form
 obtain⟨p,c,rfl,-⟩:=id hp.form
 have hx0:=hx
 refine (callsIn_wide (n:=9)).1 ?_
 refine callsIn_of_wp_marks Tryz.func152 rfl trivial ?_ rfl
 simp only[Tryz.ntmps152,yB,wI,xt,Nat.reduceAdd,Nat.reduceSub,x9,x_,yA,yv,wP,wQ]
 gi_wp2_with fail
 have m1:=ac w (.cells #[.bool xm,.slice xp xl xc,.slice xq xk xd] 79)
 have z1:=size_alloc w (.cells #[.bool xm,.slice xp xl xc,.slice xq xk xd] 79)
 have r1:=heap_alloc_new w (.cells #[.bool xm,.slice xp xl xc,.slice xq xk xd] 79 (0,0))
 generalize w.alloc (.cells #[.bool xm,.slice xp xl xc,.slice xq xk xd] 79)=w1 at *
 have m2:=ac w1 (.cells #[.int .i64 0] 3)
 have z2:=size_alloc w1 (.cells #[.int .i64 0] 3)
 have r2:=heap_alloc_new w1 (.cells #[.int .i64 0] 3 (0,0))
 generalize w1.alloc (.cells #[.int .i64 0] 3)=w2 at *
 have m3:=ac w2 (.cells #[.int .i64 0] 3)
 have z3:=size_alloc w2 (.cells #[.int .i64 0] 3)
 have r3:=heap_alloc_new w2 (.cells #[.int .i64 0] 3 (0,0))
 generalize w2.alloc (.cells #[.int .i64 0] 3)=w3 at *
 have hM3:=(m1.trans (m2.mono m1.size)).trans (m3.mono (by omega))
 have hz3:w3.heap.size=w.heap.size+3:=by omega
 obtain⟨b3,hb3⟩:∃ b,b=w.heap.size:=⟨_,rfl⟩
 rw[z1] at r2
 rw[z2,z1] at r3
 rw[←hb3] at r1 r2 r3 hz3 ⊢
 have R1:=(m3.block b3 (by omega)).trans ((m2.block b3 (by omega)).trans r1)
 have R2:=(m3.block (b3+1) (by omega)).trans r2
 have hp3:=hp.below hM3
 have hx3:=hx.below hM3
 clear m1 z1 r1 m2 z2 r2 m3 z3 hp hx
 refine⟨trivial,(callsIn_wide.2 (uJ _ zs w3 hp3)).mono ?_⟩
 rintro e w4 ⟨rfl,hbc,hltc,hp4,hb4⟩
 have R1:=(hb4.block b3 (by omega)).trans R1
 have R2:=(hb4.block (b3+1) (by omega)).trans R2
 have R3:=(hb4.block (b3+1+1) (by omega)).trans r3
 have hx4:=hx3.below hb4
 have hM4:=hM3.trans (hb4.mono (by omega))
 obtain⟨gc,hgc⟩:∃ g,g=w3.heap.size:=⟨_,rfl⟩
 rw[←hgc] at hbc hltc ⊢
 have hgb:gc=b3+3:=by omega
 have HB3:=vL hb3
 have HX4:=vL hx4
 have HX:=vL hx0
 have hgb1:gc≠b3:=by omega
 have hgb2:gc≠b3+1:=by omega
 have hgb3:gc≠b3+1+1:=by omega
 have hb3w:w.heap.size≤b3:=by omega
 have hgw:w.heap.size≤gc:=by omega
 clear hp3 hx3 hM3 hb4 r3 hgc hb3 hx0 hx4 hz3 hgb
 gi_wp2
 refine iS (gf:=196) (bnd:=#[]) (lb:=#[.pointer (some ⟨gc,0,none⟩)]) (E:=qA zs) (len:=(aT zs).length) (Sb:=fun k=>k=b3+1∨k=b3+1+1) (Si:=fun k=>k=gc) (Ok:=lG (fun k=>k=b3+1∨k=b3+1+1) qy) rfl (by omega) rfl trivial ?eg ?hSb ?hSi (lL 8 (by omega) gc _ zs w4 _ hbc hp4 h2 hs (by omega)) ?hps
  (ChgI w b3 (.bool xm) (.slice xp xl xc) (.slice xq xk xd) x zs) ?hI ?hOk ?h0
  (fun i a W=>∃ v l,a={ tmps:=#[.slice p zs.length c,.agg #[.bool xm,.slice xp xl xc,.slice xq xk xd],undef,.pointer (some ⟨b3,0,none⟩),.int .i64 0,.pointer (some ⟨b3+1,0,none⟩),.pointer (some ⟨b3+1+1,0,none⟩),v,undef,.slice p zs.length c,.func (.func 196) #[] #[.pointer (some ⟨gc,0,none⟩)],v,undef,undef,undef,undef,undef,undef,undef,undef,undef,undef,undef,undef,undef,undef,undef,undef,undef],defers:=[] }∧(aT zs)[i]?=some l∧IsP W v l∧ChgI w b3 (.bool xm) (.slice xp xl xc) (.slice xq xk xd) x zs i W) ?hI1 ?hassign ?hbody ?hdone
 case eg=>exact aQ Tryz.func196 rfl (by kernel_rfl)
 case hSb=>rintro k (rfl | rfl)<;>exact (vW.1 (by assumption)).1
 case hSi=>rintro k rfl;exact hltc
 case hps=>rintro i W vs ⟨v,l,rfl,-,-⟩;rfl
 case hI =>
  rintro i W W' ⟨n,last,h1,h2,h3,h4,h5,h6⟩ hB
  exact⟨n,last,h1,hB.cells h2 (by omega),hB.cells h3 (by omega),hB.cells h4 (by omega),hB.below h5 hM4.size h5.size (fun k e=>by omega),h6⟩
 case hOk =>
  rintro i W ⟨n,last,-,-,h3,h4,-⟩ k hk j u hc
  rcases hk with rfl | rfl
  ·exact ji h3 (by intro z e;cases e) _ rfl j u hc
  ·exact ji h4 (by intro z e;cases e) _ rfl j u hc
 case h0=>exact⟨0,0,rfl,R1,R2,R3,hM4,by omega,by omega,by omega,by omega⟩
 case hI1 =>
  rintro i a W W' ⟨v,l,e,hl,hv,n,last,h1,h2,h3,h4,h5,h6⟩ hB
  exact⟨v,l,e,hl,hv.keep (fp.of_bes hB (fun k hk=>hk.elim)),n,last,h1,hB.cells h2 id,hB.cells h3 id,hB.cells h4 id,hB.below h5 hM4.size h5.size (fun k e=>e.elim),h6⟩
 case hassign =>
  rintro l i hi W vs hI ⟨v,lc,rfl,hl,hv⟩
  rw[mW]
  simp only[vM,vQ,vR]
  gi_wp2
  exact⟨aZ.refl _ _,v,lc,rfl,hl,hv,hI⟩
 case hbody =>
  rintro l i hi a₁ W ⟨v,lc,rfl,hl,hv,n,last,h1,h2',h3,h4,h5,h6⟩
  obtain⟨hs3,hl7,hsa⟩:=qR h2 hs (x:=CQ.real x) ⟨hsx,.zero (by decide)⟩ hl
  have HN:=vL (show lN x ((aT zs).take (i+1))=fh (gz x lc) (n,last) by
   rw[pt x hi,h1]
   rw[wm hi] at hl
   rw[Option.some.inj hl])
  obtain⟨hn0,hn1,hl0,hl1⟩:=h6
  have hir:i<2:=by have:=hi;cases h2<;>simp[aT] at this<;>omega
  have c0:W.cell? ⟨b3,0,none⟩=some (.bool xm):=by rw[World.cell?,h2'];rfl
  have c1:W.cell? ⟨b3,1,none⟩=some (.slice xp xl xc):=by rw[World.cell?,h2'];rfl
  have c2:W.cell? ⟨b3,2,none⟩=some (.slice xq xk xd):=by rw[World.cell?,h2'];rfl
  have HI:=vL (And.intro h2' (And.intro h3 (And.intro h4 h5)))
  have HXW:=vL (HX.out.below h5)
  have HV:=vL hv
  have HHS:=vL hs3
  clear h1 h2' h3 h4 h5 hl hi hv hs3 hbc HX4 R1 R2 R3 hM4 hp4
  gi_wp2_with fail
  refine⟨trivial,(CallsIn.inRound l (callsIn_wide.2 (cR _ _ W HXW.out))).mono ?_⟩
  rintro e W1 ⟨v1,rfl,hv1,hb1⟩
  rw[bO] at hv1
  gi_wp2_with fail
  refine⟨trivial,(CallsIn.inRound l (callsIn_wide.2 (atN v v1 lc (CQ.real x) W1 (HV.out.below hb1) hv1 (fun z hz=>(HHS.out z hz).mono (by decide)) ⟨hsx,.zero (by decide)⟩ hl7))).mono ?_⟩
  rintro e W2 ⟨v2,rfl,hv2,hb2⟩
  have hB2:=hb1.trans (hb2.mono hb1.size)
  obtain⟨x1,x2,x3,y1,y2,y3,rfl,hx2,hy2⟩:=hv2
  obtain⟨sm,sp,sl,sc,sq,sk,sd,hxe⟩:=hx2.form
  obtain⟨tm,tp,tl,tc,tq,tk,td,hye⟩:=hy2.form
  obtain⟨rfl,rfl,rfl⟩:=cD hxe
  obtain⟨rfl,rfl,rfl⟩:=cD hye
  have hfd:=fun wy:World=>(show (Instr.field 83 (.agg #[.bool sm,.slice sp sl sc,.slice sq sk sd,.bool tm,.slice tp tl tc,.slice tq tk td]) 0).run Tryz.prog wy=.ok (.agg #[.bool sm,.slice sp sl sc,.slice sq sk sd]) wy from by kernel_rfl)
  clear hxe hye hy2 hb1 hb2 hv1 c0 c1 c2
  gi_wp2_with fail
  refine⟨trivial,(CallsIn.inRound l (callsIn_wide.2 (fN 0 W2 (by decide) (by decide)))).mono ?_⟩
  rintro e W3 ⟨v3,rfl,hv3,hb3'⟩
  clear hfd
  have hz0:Sz 1 (rt (((0:Int)):Rat)):=.zero (by decide)
  have hcmp:=jl _ _ _ _ W3 (hx2.below hb3') hv3 (cS _) (cS _) (hsa.x.fewR hz0 (by decide)).f1 (hsa.x.fewR hz0 (by decide)).f2 (hsa.x.fewR hz0 (by decide)).f3 (hsa.x.fewR hz0 (by decide)).f4
  rw[show (ct (atL lc (CQ.real x))).x=rt (atL lc (CQ.real x)).re from rfl,kX] at hcmp
  obtain⟨sg,hsg⟩:∃ s,s=gQ (atL lc (CQ.real x)).re (((0:Int)):Rat):=⟨_,rfl⟩
  have hsr:-1≤sg∧sg≤1:=by rw[hsg];exact m_ _ _
  rw[←hsg] at hcmp
  rw[show gz x lc=sg from hsg.symm] at HN
  have HC:=vL hcmp
  have hB3:=hB2.trans (hb3'.mono hB2.size)
  clear hcmp hsg hz0 hv3 hx2 hb3' hB2
  gi_wp2_with fail
  refine⟨trivial,(CallsIn.inRound l (callsIn_wide.2 HC.out)).mono ?_⟩
  rintro e W4 ⟨rfl,hb4⟩
  have hB4:=hB3.trans (hb4.mono hB3.size)
  obtain⟨h2',h3,h4,h5⟩:=HI.out
  have h2':=(hB4.block _ (vW.1 h2').1).trans h2'
  have h3:=(hB4.block _ (vW.1 h3).1).trans h3
  have h4:=(hB4.block _ (vW.1 h4).1).trans h4
  have h5:=h5.trans (hB4.mono h5.size)
  have HT:=vL (aZ.of_below (S:=fun k=>k=b3+1∨k=b3+1+1) hB4)
  obtain⟨k5,f5⟩:=bU h3
  obtain⟨k6,f6⟩:=bU h4
  have HI:=vL (And.intro h2' (And.intro h3 (And.intro h4 h5)))
  clear hB3 hb4 hB4 HC h2' h3 h4 h5
  by_cases hs0:sg=0
  ·subst hs0
   gi_wp2
   obtain⟨q1,q2,q3,q4⟩:=HI.out
   exact⟨HT.out,n,last,by rw[HN.out];simp[fh],q1,q2,q3,q4,hn0,by omega,hl0,hl1⟩
  ·have hw1:IntKind.i64.wrap (-last)=-last:=IntWalk.i64_in _ (by omega)
   have hw2:IntKind.i64.wrap (n+1)=n+1:=IntWalk.i64_in _ (by omega)
   have hd0:(sg == 0)=false:=by simpa using hs0
   by_cases hsl:sg=-last
   ·have hd:(sg == -last)=true:=by simpa using hsl
    have HN:=vL (show lN x ((aT zs).take (i+1))=(n+1,sg) by rw[HN.out];simp only[fh];rw[if_neg hs0,if_pos hsl])
    have HSR:=vL hsr
    have e1:b3+1≠b3:=by omega
    have e2:b3+1+1≠b3:=by omega
    have e3:b3+1+1≠b3+1:=by omega
    clear hsl hsr hs0
    gi_wp2
    obtain⟨q1,q2,q3,q4⟩:=HI.out
    have g1:=(Below.heap_setCell W4 ⟨b3+1,0,none⟩ (.int .i64 (n+1)) b3 (by show b3≠b3+1;omega)).trans q1
    have g2:=heap_setCell_same W4 (b3+1) 0 _ _ (.int .i64 (n+1)) q2
    have g3:=(Below.heap_setCell W4 ⟨b3+1,0,none⟩ (.int .i64 (n+1)) (b3+1+1) (by show b3+1+1≠b3+1;omega)).trans q3
    have g4:=q4.setCell (p:=⟨b3+1,0,none⟩) (by show w.heap.size≤b3+1;omega) (.int .i64 (n+1))
    have t1:=HT.out.trans (aZ.set (S:=fun k=>k=b3+1∨k=b3+1+1) (w:=W4) (Or.inl rfl) 0 (.int .i64 (n+1)))
    generalize W4.setCell ⟨b3+1,0,none⟩ (.int .i64 (n+1))=W5 at *
    exact⟨t1.trans (aZ.set (Or.inr rfl) 0 _),n+1,sg,HN.out,(Below.heap_setCell W5 ⟨b3+1+1,0,none⟩ _ b3 (by show b3≠b3+1+1;omega)).trans g1,(Below.heap_setCell W5 ⟨b3+1+1,0,none⟩ _ (b3+1) (by show b3+1≠b3+1+1;omega)).trans g2,heap_setCell_same W5 (b3+1+1) 0 _ _ _ g3,g4.setCell (p:=⟨b3+1+1,0,none⟩) (by show w.heap.size≤b3+1+1;omega) _,by omega,by omega,HSR.out.1,HSR.out.2⟩
   ·have hd:(sg == -last)=false:=by simpa using hsl
    have HN:=vL (show lN x ((aT zs).take (i+1))=(n,sg) by rw[HN.out];simp only[fh];rw[if_neg hs0,if_neg hsl])
    have HSR:=vL hsr
    clear hsl hsr hs0
    gi_wp2
    obtain⟨q1,q2,q3,q4⟩:=HI.out
    exact⟨HT.out.trans (aZ.set (Or.inr rfl) 0 _),n,sg,HN.out,(Below.heap_setCell W4 ⟨b3+1+1,0,none⟩ _ b3 (by show b3≠b3+1+1;omega)).trans q1,(Below.heap_setCell W4 ⟨b3+1+1,0,none⟩ _ (b3+1) (by show b3+1≠b3+1+1;omega)).trans q2,heap_setCell_same W4 (b3+1+1) 0 _ _ _ q3,q4.setCell (p:=⟨b3+1+1,0,none⟩) (by show w.heap.size≤b3+1+1;omega) _,hn0,by omega,HSR.out.1,HSR.out.2⟩
 case hdone =>
  rintro D W hD ⟨n,last,h1,h2',h3,h4,h5,h6⟩ hK
  rw[wA] at h1
  have HN:=vL (show bM zs x=n by unfold bM;rw[h1])
  obtain⟨k5,f5⟩:=bU h3
  have HM:=vL h5
  have HK:=vL hK
  clear h1 h2' h3 h4 h5 hK hbc HX4 R1 R2 R3 hp4
  gi_wp2
  have hne:w.heap.size≤D:=by have:=hM4.size;omega
  refine⟨by simp,.inl ⟨_,_,rfl,run_takeDeferred HK.out,?_⟩⟩
  refine⟨.int .i64 n,by simp[results,Tryz.results152,go_sem],by rw[HN.out],HM.out.trans ⟨rfl,rfl,rfl,by simp,fun k hk=>World.putObj_heap_other (by omega)⟩⟩
end Go.Proofs.YtomkanblohhpfaaGreatDoor
