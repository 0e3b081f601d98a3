/- Lemmas of this claim. -/
import Derived.BigQuiet
import Derived.Laws.StructEq
import Derived.Test.YtlkniohhalnjjaaGreatDoorKLock6
import Derived.Test.YtlkniohhalnjjaaGreatDoorKMeet
set_option linter.all false
set_option maxRecDepth 100000
set_option maxHeartbeats 8000000
namespace Go.Proofs.YtlkniohhalnjjaaGreatDoor
open Go.RowKit Dc Dg
structure iN (w:World) (v:Value) (l:List Ev):Prop where
 at_:∃ p c,v=.slice p l.length c∧(0<l.length→∃ b o,p=some ⟨b,o,none⟩∧b<w.heap.size∧∀ i (h:i<l.length),w.cell? ⟨b,o+i*2,none⟩=some (.int .i64 l[i].g)∧w.cell? ⟨b,o+i*2+1,none⟩=some (.int .i64 l[i].k))
theorem iN.below {w w':World}{v:Value}{l:List Ev} (h:iN w v l) (hb:Below w.heap.size w w'):iN w' v l:=by
 obtain⟨p,c,e,hc⟩:=h.at_
 refine⟨p,c,e,fun hl=>?_⟩
 obtain⟨b,o,e2,hlt,hi⟩:=hc hl
 exact⟨b,o,e2,uv hlt hb.size,fun i hi2=>⟨(hb.cell (p:=⟨b,_,none⟩) hlt).trans (hi i hi2).1,(hb.cell (p:=⟨b,_,none⟩) hlt).trans (hi i hi2).2⟩⟩
theorem kt {α:Type}{la lb:List α}{i:Nat} (ha:i<la.length) (hb:i<lb.length) (h:la.take i=lb.take i) (hi:la[i]=lb[i]):la.take (i+1)=lb.take (i+1):=by
 rw[uO,uO,h,uu ha,uu hb,hi]
theorem cQ (va vb:Value) (la lb:List Int) (w:World) (ha:bL w va la) (hb:bL w vb lb) (hn:la.length≤1000000) (hm:lb.length≤1000000) :
  Calls Tryz.prog 6 #[va,vb] w fun e w'=>e=.returned (.bool (decide (la=lb)))∧Below w.heap.size w w':=by
 obtain⟨p,c,rfl,hc⟩:=ha.at_
 obtain⟨q,d,rfl,hd⟩:=hb.at_
 have HA:=uk hc
 have HB:=uk hd
 clear ha hb hc hd
 go_enter Tryz.func6,Tryz.ntmps6
 by_cases hl:la.length=lb.length
 ·have hd:(((la.length:Nat):Int) == ((lb.length:Nat):Int))=true:=by simp[hl]
  have HL:=uk hl
  obtain⟨n,hna⟩:∃ n,n=la.length:=⟨_,rfl⟩
  obtain⟨m,hmb⟩:∃ m,m=lb.length:=⟨_,rfl⟩
  rw[←hna,←hmb] at hd
  rw[←hna] at hn
  rw[←hmb] at hm
  rw[←hna,←hmb]
  have HN:=uk hna
  have HM:=uk hmb
  clear hna hmb hl
  go_wp2_with fail
  go_loopw [5] (fun s5 wr=>∃ i:Nat,s5=.int .i64 i∧i≤n∧Below w.heap.size w wr∧Hid (la.take i=lb.take i)) (fun s5 _=>n-(intOf s5).toNat)
  case atStart=>exact⟨0,rfl,by omega,Below.refl _ _,rfl⟩
  case round =>
   obtain⟨i,rfl,hi,hbl,hx⟩:=hrel
   by_cases hil:i<n
   ·have hia:i<la.length:=by have:=HN.out;omega
    have hib:i<lb.length:=by have:=HL.out;omega
    obtain⟨b,o,rfl,hbw,hcs⟩:=HA.out (by omega)
    obtain⟨b2,o2,rfl,hbw2,hcs2⟩:=HB.out (by omega)
    have e0:=(hbl.cell (p:=⟨b,_,none⟩) hbw).trans (hcs i hia)
    have e1:=(hbl.cell (p:=⟨b2,_,none⟩) hbw2).trans (hcs2 i hib)
    obtain⟨x,hx1⟩:∃ x,x=la[i]:=⟨_,rfl⟩
    obtain⟨y,hy1⟩:∃ y,y=lb[i]:=⟨_,rfl⟩
    rw[←hx1] at e0
    rw[←hy1] at e1
    have HX:=uk hx1
    have HY:=uk hy1
    have him:i<m:=by have:=HM.out;have:=HL.out;have:=HN.out;omega
    clear hx1 hy1 hcs hcs2
    by_cases hxy:x=y
    ·have hd2:(x == y)=true:=by simp[hxy]
     have HXY:=uk hxy
     clear hxy
     go_wp2_with fail
     go_quiet (fail)
     go_wp2_with fail
     go_roundw
     case rel=>exact⟨i+1,by go_num,by omega,below_drewN hbl _,kt hia hib hx.out (by rw[←HX.out,←HY.out];exact HXY.out)⟩
     case measure=>simp[intOf];omega
    ·have hd2:(x == y)=false:=by simp[hxy]
     have HXY:=uk hxy
     clear hxy
     go_wp2_with fail
     go_quiet (fail)
     go_wp2_with fail
     go_ret
     have hne:¬ la=lb:=fun e=>HXY.out (by rw[HX.out,HY.out];simp[e])
     exact⟨by simp[hne],below_drewN hbl _⟩
   ·have hie:i=n:=by omega
    subst hie
    clear hil hi
    go_wp2_with fail
    go_ret
    have he:la=lb:=by
     have h1:=hx.out
     rw[uE (by have:=HN.out;omega),uE (by have:=HN.out;have:=HL.out;omega)] at h1
     exact h1
    exact⟨by simp[he],hbl⟩
 ·have hd:(((la.length:Nat):Int) == ((lb.length:Nat):Int))=false:=by simp;omega
  go_wp2_with fail
  go_ret
  have hne:¬ la=lb:=fun e=>hl (by rw[e])
  exact⟨by simp[hne],Below.refl _ _⟩
theorem rf (w:World) (n:Nat) (a b c d:Int):(Op.equalIn (n+1+1) 31 (.agg #[.int .i64 a,.int .i64 b]) (.agg #[.int .i64 c,.int .i64 d])).run Tryz.prog w=.ok (a == c&&b == d) w:=by
 have hs:Tryz.prog.stoodInHeld 31=false:=by kernel_rfl
 have c3:Tryz.prog.cellsOf 3=1:=kA
 have hu:=Tryz.underlying31
 have h3:=rI
 rw[run_equalIn_struct w _ _ _ _ (by simp[Program.fieldsOf,hu]) hs]
 simp[go_sem,Program.fieldsOf,hu,Op.eqFields]
 by_cases h1:a=c<;>by_cases h2:b=d<;>simp[h1,h2]
theorem sl:Tryz.prog.eqGuardType Tryz.prog.depth 31=false:=by kernel_rfl
theorem px (w:World) (a b c d:Int):(Op.equalIn 10000 31 (.agg #[.int .i64 a,.int .i64 b]) (.agg #[.int .i64 c,.int .i64 d])).run Tryz.prog w=.ok (a == c&&b == d) w:=rf w _ a b c d
theorem iF (va vb:Value) (la lb:List Ev) (w:World) (ha:iN w va la) (hb:iN w vb lb) (hn:la.length≤1000000) (hm:lb.length≤1000000) :
  Calls Tryz.prog 13 #[va,vb] w fun e w'=>e=.returned (.bool (decide (la=lb)))∧Below w.heap.size w w':=by
 obtain⟨p,c,rfl,hc⟩:=ha.at_
 obtain⟨q,d,rfl,hd⟩:=hb.at_
 have HA:=uk hc
 have HB:=uk hd
 clear ha hb hc hd
 go_enter Tryz.func13,Tryz.ntmps13
 by_cases hl:la.length=lb.length
 ·have hd:(((la.length:Nat):Int) == ((lb.length:Nat):Int))=true:=by simp[hl]
  have HL:=uk hl
  obtain⟨n,hna⟩:∃ n,n=la.length:=⟨_,rfl⟩
  obtain⟨m,hmb⟩:∃ m,m=lb.length:=⟨_,rfl⟩
  rw[←hna,←hmb] at hd
  rw[←hna] at hn
  rw[←hmb] at hm
  rw[←hna,←hmb]
  have HN:=uk hna
  have HM:=uk hmb
  clear hna hmb hl
  go_wp2_with fail
  go_loopw [5] (fun s5 wr=>∃ i:Nat,s5=.int .i64 i∧i≤n∧Below w.heap.size w wr∧Hid (la.take i=lb.take i)) (fun s5 _=>n-(intOf s5).toNat)
  case atStart=>exact⟨0,rfl,by omega,Below.refl _ _,rfl⟩
  case round =>
   obtain⟨i,rfl,hi,hbl,hx⟩:=hrel
   by_cases hil:i<n
   ·have hia:i<la.length:=by have:=HN.out;omega
    have hib:i<lb.length:=by have:=HL.out;omega
    obtain⟨b,o,rfl,hbw,hcs⟩:=HA.out (by omega)
    obtain⟨b2,o2,rfl,hbw2,hcs2⟩:=HB.out (by omega)
    have e0:=(hbl.cell (p:=⟨b,_,none⟩) hbw).trans (hcs i hia).1
    have e1:=(hbl.cell (p:=⟨b2,_,none⟩) hbw2).trans (hcs2 i hib).1
    have e2:=(hbl.cell (p:=⟨b,_,none⟩) hbw).trans (hcs i hia).2
    have e3:=(hbl.cell (p:=⟨b2,_,none⟩) hbw2).trans (hcs2 i hib).2
    obtain⟨x,hx1⟩:∃ x,x=la[i]:=⟨_,rfl⟩
    obtain⟨y,hy1⟩:∃ y,y=lb[i]:=⟨_,rfl⟩
    rw[←hx1] at e0 e2
    rw[←hy1] at e1 e3
    have HX:=uk hx1
    have HY:=uk hy1
    have him:i<m:=by have:=HM.out;have:=HL.out;have:=HN.out;omega
    clear hx1 hy1 hcs hcs2
    obtain⟨xg,xk⟩:=x
    obtain⟨yg,yk⟩:=y
    simp only at e0 e1 e2 e3
    have heq:=fun w=>px w xg xk yg yk
    have hgd:=sl
    by_cases hxy:xg=yg∧xk=yk
    ·obtain⟨rfl,rfl⟩:=hxy
     go_wp2_with fail
     go_quiet (fail)
     go_wp2_with fail
     go_roundw
     case rel=>exact⟨i+1,by go_num,by omega,below_drewN hbl _,kt hia hib hx.out (by rw[←HX.out,←HY.out])⟩
     case measure=>simp[intOf];omega
    ·have hxy2:¬ (Ev.mk xg xk)=⟨yg,yk⟩:=by simpa using hxy
     have HXY:=uk hxy2
     have hd2:(xg == yg&&xk == yk)=false:=by simp;simpa using hxy
     clear hxy2
     go_wp2_with fail
     go_quiet (fail)
     go_wp2_with fail
     go_ret
     have hne:¬ la=lb:=fun e=>HXY.out (by rw[HX.out,HY.out];simp[e])
     exact⟨by simp[hne],below_drewN hbl _⟩
   ·have hie:i=n:=by omega
    subst hie
    clear hil hi
    go_wp2_with fail
    go_ret
    have he:la=lb:=by
     have h1:=hx.out
     rw[uE (by have:=HN.out;omega),uE (by have:=HN.out;have:=HL.out;omega)] at h1
     exact h1
    exact⟨by simp[he],hbl⟩
 ·have hd:(((la.length:Nat):Int) == ((lb.length:Nat):Int))=false:=by simp;omega
  go_wp2_with fail
  go_ret
  have hne:¬ la=lb:=fun e=>hl (by rw[e])
  exact⟨by simp[hne],Below.refl _ _⟩
theorem lp (gs:List Gd) (p:Option Addr) (c:Nat) (m:Nat) (v:Ev) (w:World) (hm:w.cell? ⟨m,0,none⟩=some (.slice p gs.length c)) (hn:gs.length≤3) :
  Calls Tryz.prog 31 #[.pointer (some ⟨m,0,none⟩),.agg #[.int .i64 v.g,.int .i64 v.k]] w (fun e w'=>e=.returned (.bool (cx (ad gs) v))∧Below w.heap.size w w'):=by
 obtain⟨g,k⟩:=v
 simp only
 have hml:m<w.heap.size:=block_lt_of_cell hm
 have hbl:Below w.heap.size w (w.alloc (.cells #[.int .i64 g,.int .i64 k] 31)):=(Below.refl _ _).alloc (uo _) _
 have e0:=af w #[.int .i64 g,.int .i64 k] 31 0 _ rfl
 have e1:=af w #[.int .i64 g,.int .i64 k] 31 1 _ rfl
 have hm2:=(hbl.cell (p:=⟨m,0,none⟩) hml).trans hm
 go_enter Tryz.func31,Tryz.ntmps31
 go_upto_region 1 with fail
 generalize w.alloc (.cells #[.int .i64 g,.int .i64 k] 31)=w1 at *
 by_cases h1:0≤g∧g≤(gs.length:Int)-1
 ·have hT1:=uk (dK h1.1 h1.2)
  have H1:=uk h1
  clear h1
  by_cases h2:0≤k∧k≤2
  ·have hT2:=uk (dK h2.1 h2.2)
   go_quiet ((go_at_call 27;first | with_reducible exact aT (hT1.out _) | with_reducible exact aT (hT2.out _)))
   go_wp2_with fail
   go_ret
   have:=H1.out
   exact⟨by unfold cx ad;simp;omega,below_drewN hbl _⟩
  ·have hT2:=uk (dJ h2)
   go_quiet ((go_at_call 27;first | with_reducible exact aT (hT1.out _) | with_reducible exact aT (hT2.out _)))
   go_wp2_with fail
   go_ret
   exact⟨by unfold cx ad;simp;omega,below_drewN hbl _⟩
 ·have hT1:=uk (dJ h1)
  have H1:=uk h1
  clear h1
  go_quiet ((go_at_call 27;with_reducible exact aT (hT1.out _)))
  go_wp2_with fail
  go_ret
  have:=H1.out
  exact⟨by unfold cx ad;simp;omega,below_drewN hbl _⟩
theorem jy:∀ (q:List St) (i:Nat) (h:i<q.length) (j:Nat),j<6→(q.flatMap aw)[i*6+j]?=(aw q[i])[j]?
 | [],i,h,_,_=>by simp at h
 | x :: q,0,_,j,hj=>by
  rw[u5,uS (by simp[aw];omega)]
  simp
 | x :: q,i+1,h,j,hj=>by
  rw[u5,vY (by simp[aw];omega)]
  rw[show (i+1)*6+j-(aw x).length=i*6+j by simp[aw];omega]
  exact jy q i (by simpa using h) j hj
theorem bG.get {B:Nat}{w:World}{v:Value}{q:List St} (h:bG B w v q) {i:Nat} (hi:i<q.length):∃ g off cap,v=.slice (some ⟨g,off,none⟩) q.length cap∧g<w.heap.size ∧
  w.cell? ⟨g,off+i*6,none⟩=some (.int .i64 q[i].a0)∧w.cell? ⟨g,off+i*6+1,none⟩=some (.int .i64 q[i].a1)∧w.cell? ⟨g,off+i*6+2,none⟩=some (.int .i64 q[i].a2)∧w.cell? ⟨g,off+i*6+3,none⟩=some (.int .i64 q[i].f0)∧w.cell? ⟨g,off+i*6+4,none⟩=some (.int .i64 q[i].f1)∧w.cell? ⟨g,off+i*6+5,none⟩=some (.int .i64 q[i].f2):=by
 obtain⟨ao,cap,rfl,h1,h2,h3⟩:=h
 obtain⟨g,off,cur,rfl,hB,hg,h4,h5⟩:=h3 (by omega)
 have key:∀ j u,j<6→(aw q[i])[j]?=some u→w.cell? ⟨g,off+i*6+j,none⟩=some u:=fun j u hj hu=>by
  rw[cell_of_row w g _ cur _ _ hg,vw]
  exact h5 _ _ ((jy q i hi j hj).trans hu)
 exact⟨g,off,cap,rfl,ag hg,key 0 _ (by omega) rfl,key 1 _ (by omega) rfl,key 2 _ (by omega) rfl,key 3 _ (by omega) rfl,key 4 _ (by omega) rfl,key 5 _ (by omega) rfl⟩
theorem eM {P:Program}{w w':World}{o:Oper}{a:Act}{K:Act→World→Prop}{Q:Exit→Act→World→Prop} (s x:Operand) (t:TypeId)
  (hop:o.op=Op.call { callee:=Callee.builtin Builtin.append,args:=#[s,x],argTypes:=#[t,t] }) {v x' v':Value} (hs:a.eval s=v) (hx:a.eval x=x') (hrun:(Builtin.append_ #[t,t] o.type #[v,x']).run P w=.ok v' w')
  (hK:K (a.put o.dst v') w'):Oper.wp P o a w K Q:=by
 unfold Oper.wp
 simp[execOp,hop,resolve,invoke,builtin,hs,hx,hrun,Result.andThen]
 exact hK
end Go.Proofs.YtlkniohhalnjjaaGreatDoor
