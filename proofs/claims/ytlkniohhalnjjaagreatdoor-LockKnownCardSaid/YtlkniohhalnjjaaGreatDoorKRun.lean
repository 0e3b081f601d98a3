/- Lemmas of this claim. -/
import Derived.Test.YtlkniohhalnjjaaGreatDoorKPlay2
set_option linter.all false
set_option maxRecDepth 100000
set_option maxHeartbeats 8000000
namespace Go.Proofs.YtlkniohhalnjjaaGreatDoor
open Go.RowKit Dc Dg
structure a8 (B n:Nat) (w:World) (v:Value) (L:List (St×Value×Value)):Prop where
 row:w.ownsRow B 36 2 v L.length (L.flatMap fun t=>[t.2.1,t.2.2])
 ints:∀ t∈L,aG B w t.2.1 (atL n t.1)∧aG B w t.2.2 (aN n t.1)
theorem a8.near {B n:Nat}{w w':World}{v:Value}{L:List (St×Value×Value)} (h:a8 B n w v L) (hs:∀ k,B≤k→k<w.heap.size→w'.heap[k]?=w.heap[k]?):a8 B n w' v L :=
 ⟨bc h.row (fun k hk=>by obtain⟨h1,h2,_⟩:=ap h.row hk;exact hs k h1 h2),fun t ht=>⟨(h.ints t ht).1.near hs,(h.ints t ht).2.near hs⟩⟩
theorem a8.below {B n:Nat}{w w':World}{v:Value}{L:List (St×Value×Value)} (h:a8 B n w v L) (hb:Below w.heap.size w w'):a8 B n w' v L:=h.near (fun k _ hk=>hb.block k hk)
theorem a8.base {B B' n:Nat}{w:World}{v:Value}{L:List (St×Value×Value)} (h:a8 B n w v L) (hb:B'≤B):a8 B' n w v L:=⟨d8 h.row hb,fun t ht=>⟨(h.ints t ht).1.base hb,(h.ints t ht).2.base hb⟩⟩
theorem a8.nil (B n:Nat) (w:World):a8 B n w (.slice none 0 0) []:=⟨World.ownsRow_nil _ _ _ _,fun t ht=>by cases ht⟩
theorem a8.slice {B n:Nat}{w:World}{v:Value}{L:List (St×Value×Value)} (h:a8 B n w v L):∃ a c,v=.slice a L.length c:=by
 rcases h.row.2 with ⟨rfl,hn⟩ | ⟨g,cap,cur,rfl,_⟩
 ·exact⟨none,0,by rw[hn]⟩
 ·exact⟨_,_,rfl⟩
theorem a8.get {B n:Nat}{w:World}{v:Value}{L:List (St×Value×Value)} (h:a8 B n w v L) {i:Nat} (hi:i<L.length):∃ g cap,v=.slice (some ⟨g,0,none⟩) L.length cap∧g<w.heap.size∧w.cell? ⟨g,0+i*2,none⟩=some L[i].2.1∧w.cell? ⟨g,0+i*2+1,none⟩=some L[i].2.2∧aG B w L[i].2.1 (atL n L[i].1)∧aG B w L[i].2.2 (aN n L[i].1):=by
 rcases h.row.2 with ⟨rfl,hn⟩ | ⟨g,cap,cur,rfl,hb,hg,h3⟩
 ·omega
 ·obtain⟨f1,f2⟩:=gQ (fun t:St×Value×Value=>t.2.1) (fun t=>t.2.2) L i hi
  have c1:=World.ownsRow.cells h.row (g:=g) rfl _ _ f1
  have c2:=World.ownsRow.cells h.row (g:=g) rfl _ _ f2
  rw[cC] at c1 c2
  exact⟨g,cap,rfl,ag hg,c1,by rw[vw];exact c2,(h.ints _ (uH hi)).1,(h.ints _ (uH hi)).2⟩
theorem qB:(Tryz.prog.info? 36).map (fun i=>(i.zero,i.size,i.bytes))=some (some (.agg #[.slice none 0 0,.slice none 0 0]),2,48):=by kernel_rfl
theorem sJ:Tryz.prog.underlying 22=some (.slice 36):=by kernel_rfl
theorem pT {o:Oper}{a:Act}{w:World}{K:Act→World→Prop}{Q:Exit→Act→World→Prop} (s x:Operand) (ho:o.op=.call { callee:=.builtin .append,args:=#[s,x],argTypes:=#[22,22] })
  (B n:Nat) (v:Value) (L:List (St×Value×Value)) (hs:a.eval s=v) (hr:a8 B n w v L) (hl:L.length≤1000000) (hB:B≤w.heap.size) (b:Nat) (u1 u2:Value) (hx:a.eval x=.slice (some ⟨b,0,none⟩) 1 1) (hb0:w.cell? ⟨b,0,none⟩=some u1) (hb1:w.cell? ⟨b,1,none⟩=some u2)
  (y:St) (h1:aG B w u1 (atL n y)) (h2:aG B w u2 (aN n y))
  (h:∀ g cap w',a8 B n w' (.slice (some ⟨g,0,none⟩) (L.length+1) cap) (L++[(y,u1,u2)])→w.grownBy w' v.ownBlock→K (a.put o.dst (.slice (some ⟨g,0,none⟩) (L.length+1) cap)) w'):o.wp Tryz.prog a w K Q:=by
 obtain⟨i0,hi,hz0,hz1,hz2⟩:=info_parts qB
 have o1:u1.oneCell'=true:=by obtain⟨_,_,rfl⟩:=h1.slice;rfl
 have o2:u2.oneCell'=true:=by obtain⟨_,_,rfl⟩:=h2.slice;rfl
 refine wp_append_lies w s x 22 ho B 36 i0 (.agg #[.slice none 0 0,.slice none 0 0]) 2 48 sJ hi hz0 hz1 hz2 rfl (by decide) v L.length _ hs hr.row ⟨b,0,none⟩ 1 1 [u1,u2] hx rfl (fun j u hj=>?_) (fun u hu=>?_) (by decide) (by unfold maxLen;omega) (by omega) hB _ rfl (fun g cap w' r1 r2 r3 r4=>?_)
 ·match j,hj with
  | 0,hj=>simp at hj;subst hj;simpa[Addr.add] using hb0
  | 1,hj=>simp at hj;subst hj;simpa[Addr.add] using hb1
 ·simp at hu
  rcases hu with rfl | rfl
  ·exact o1
  ·exact o2
 ·have e:(L++[(y,u1,u2)]).length=L.length+1:=by simp
  have keep:∀ (z:Value) (zs:List Int),aG B w z zs→aG B w' z zs:=fun z zs hz=>hz.same (fun k hk=>by
   obtain⟨_,hk2,_⟩:=ap hz hk
   exact r2.block k hk2 (fun e2=>dA hr.row hz (by decide) e2.symm hk))
  refine h g cap w' ⟨?_,fun t ht=>?_⟩ r2
  ·rw[e,vN]
   exact r1
  ·rcases uV.1 ht with ht | ht
   ·exact⟨keep _ _ (hr.ints t ht).1,keep _ _ (hr.ints t ht).2⟩
   ·simp at ht
    subst ht
    exact⟨keep _ _ h1,keep _ _ h2⟩
def dt (gs:List Gd) (l:List Ev):List St:=if bI gs l=0 then (aR (ad gs) St.zero l).tail else []
def RunQ (w:World) (gs:List Gd) (l:List Ev) (e:Ending) (w':World):Prop :=
 Below w.heap.size w w'∧∃ v L,e=.returned (.tuple #[v,.int .i64 (bI gs l)])∧a8 w.heap.size gs.length w' v L∧L.map (·.1)=dt gs l
structure ta (w3 wr:World) (gs:List Gd) (qs:List St) (i:Nat) (v:Value):Prop where
 below:Below w3.heap.size w3 wr
 ex:∃ L,a8 w3.heap.size gs.length wr v L∧L.map (·.1)=qs.take i
theorem mh (M:ar) (x:St) (l:List Ev):∃ t,aR M x l=x :: t∧(aR M x l).tail=t∧t.length=l.length:=by
 cases l with
 | nil=>exact⟨[],rfl,rfl,rfl⟩
 | cons v l=>exact⟨aR M (bB M x v) l,rfl,rfl,by rw[bN];rfl⟩
theorem runN (gs:List Gd) (p:Option Addr) (c:Nat) (v:Value) (l:List Ev) (w:World) (hP:dM w p c gs) (hE:iN w v l) (hlen:(l.length:Int)≤9223372036854775807) :
  Calls Tryz.prog 4 #[.agg #[.slice p gs.length c],v] w (RunQ w gs l):=by
 have hb1:Below w.heap.size w (w.alloc (.cells #[.slice p gs.length c] 28)):=(Below.refl _ _).alloc (uo _) _
 have s0:=heap_alloc_new w (.cells #[.slice p gs.length c] 28)
 have P1:=hP.below hb1
 have E1:=hE.below hb1
 have c0:=aa s0 0
 go_enter Tryz.func4,Tryz.ntmps4
 go_upto_region 1 with fail
 generalize w.alloc (.cells #[.slice p gs.length c] 28)=w1 at *
 go_wp2_with fail
 refine (oa gs p c v l w1 P1 E1 hlen).mono ?_
 rintro e w2 ⟨hb2,hQ⟩
 have HB2:=hb1.trans (hb2.mono hb1.size)
 rcases hQ with ⟨hne,rfl⟩ | ⟨hpe,mB,vn,vb,mb,Nm,sm,f,qv,rfl,hM,hq⟩
 ·obtain⟨n,hn⟩:∃ n,n=bI gs l:=⟨_,rfl⟩
  rw[←hn] at hne ⊢
  have hd:(n != 0)=true:=by simp[hne]
  have HN:=uk hn
  have HNE:=uk hne
  clear hn hne
  go_wp2_with fail
  go_ret2
  refine⟨HB2,_,[],?_,a8.nil _ _ _,?_⟩
  ·rw[←HN.out];rfl
  ·unfold dt
   rw[←HN.out,if_neg HNE.out];rfl
 ·have HPE:=uk hpe
  obtain⟨qs,hqs,hqt,hql⟩:=mh (ad gs) St.zero l
  rw[hqs] at hq
  have hrs:dt gs l=qs:=by unfold dt;rw[if_pos hpe,hqt]
  have hlen2:l.length≤256:=by
   unfold bI at hpe
   split at hpe
   ·split at hpe
    ·cases hpe
    ·omega
   ·cases hpe
  rw[←hql] at hlen2
  have HRS:=uk hrs
  clear hrs hqt hql hpe hqs hlen
  obtain⟨qt,hsl,hqq,hsub⟩:=hq.tail
  obtain⟨aq,cq,eq⟩:=hq.len
  obtain⟨at_,ct,et⟩:=hqq.len
  obtain⟨nq,hnq⟩:∃ nq,nq=(St.zero :: qs).length:=⟨_,rfl⟩
  obtain⟨nt,hnt⟩:∃ nt,nt=qs.length:=⟨_,rfl⟩
  rw[←hnq] at eq
  rw[←hnt] at et hlen2
  subst eq
  subst et
  have HNT:=uk hnt
  clear hnq hnt hsub hq
  have R0:ta w2 w2 gs qs 0 (.slice none 0 0):=⟨Below.refl _ _,[],a8.nil _ _ _,rfl⟩
  go_wp2_with fail
  clear hsl
  have HQT:=uk hqq
  have hMz:=uk hM
  clear hqq hM
  obtain⟨hl1,hl3⟩:1≤gs.length∧gs.length≤3:=bf (by have:=HPE.out;unfold bI at this;by_cases h:aS gs=true;exact h;rw[if_neg h] at this;cases this)
  go_loopw [25,9] (fun s25 s9 wr=>∃ i:Nat,s25=.int .i64 i∧i≤nt∧ta w2 wr gs qs i s9) (fun s25 _ _=>nt-(intOf s25).toNat)
  case atStart=>exact⟨0,rfl,by omega,R0⟩
  case round =>
   clear R0
   obtain⟨i,rfl,hi,hR⟩:=hrel
   by_cases hin:i<nt
   ·have hil:i<qs.length:=by have:=HNT.out;omega
    obtain⟨L,hL,hLm⟩:=hR.ex
    have hLl:L.length=i:=by have:=congrArg List.length hLm;simp only[vH,uW] at this;omega
    have hqr:=HQT.out.below (hR.below.mono (uo _))
    obtain⟨g,off,cap,e1,hgl,q0,q1,q2,q3,q4,q5⟩:=hqr.get hil
    have e2:at_=some ⟨g,off,none⟩∧cap=ct:=by
     simp only[Value.slice.injEq] at e1
     exact⟨e1.1,e1.2.2.symm⟩
    obtain⟨rfl,rfl⟩:=e2
    obtain⟨y,hy⟩:∃ y,y=qs[i]:=⟨_,rfl⟩
    rw[←hy] at q0 q1 q2 q3 q4 q5
    have HY:=uk hy
    have HLM:=uk hLm
    have HLL:=uk hLl
    have hMr:=hMz.out.below hR.below
    have hbA:Below w2.heap.size w2 (wr.alloc (.cells #[.int .i64 y.a0,.int .i64 y.a1,.int .i64 y.a2,.int .i64 y.f0,.int .i64 y.f1,.int .i64 y.f2] 71)):=hR.below.alloc hR.below.size _
    have hbA':=(Below.refl wr.heap.size wr).alloc (uo _) (.cells #[.int .i64 y.a0,.int .i64 y.a1,.int .i64 y.a2,.int .i64 y.f0,.int .i64 y.f1,.int .i64 y.f2] 71)
    have k0:=StP.new wr y
    have hLA:=hL.below hbA'
    have hMA:=hMr.below hbA'
    obtain⟨ao,co,hvo⟩:=hL.slice
    subst hvo
    clear hy hLm hqr e1 hLl
    go_upto_region 8 with fail
    generalize wr.alloc (.cells #[.int .i64 y.a0,.int .i64 y.a1,.int .i64 y.a2,.int .i64 y.f0,.int .i64 y.f1,.int .i64 y.f2] 71)=wa at *
    have z0:=k0.cell 0;have z1:=k0.cell 1;have z2:=k0.cell 2;have z3:=k0.cell 3;have z4:=k0.cell 4;have z5:=k0.cell 5
    clear q0 q1 q2 q3 q4 q5 hbA' hL hMr hR hgl
    refine wp_region_lit ?_
    refine wpList_plain rfl (fun K hK=>?_)
    go_simp
    refine hK _ _ ?_
    clear hK K
    try simp only[Act.put,uj,um,ul]
    refine wpList_plain rfl (fun K hK=>?_)
    go_simp
    refine hK _ _ ?_
    clear hK K
    try simp only[Act.put,uj,um,ul]
    refine wpList_plain rfl (fun K hK=>?_)
    go_simp
    refine hK _ _ ?_
    clear hK K
    try simp only[Act.put,uj,um,ul]
    refine wpList_plain rfl (fun K hK=>?_)
    go_simp
    refine (kN gs p c mB y wa hMA.m0 hl3).mono ?_
    rintro e wb ⟨vs,rfl,⟨u1,u2,rfl,hu1,hu2⟩,hbB⟩
    obtain⟨p1,c1,rfl⟩:=hu1.slice
    obtain⟨p2,c2,rfl⟩:=hu2.slice
    refine hK _ _ ?_
    clear hK K
    try simp only[Act.put,uj,um,ul]
    refine wpList_plain rfl (fun K hK=>?_)
    go_simp
    refine hK _ _ ?_
    clear hK K
    try simp only[Act.put,uj,um,ul]
    have hbC:Below wb.heap.size wb (wb.alloc (.cells #[.slice p1 (atL gs.length y).length c1,.slice p2 (aN gs.length y).length c2] 36)):=(Below.refl _ _).alloc (uo _) _
    have HBC:=(hbA.trans (hbB.mono hbA.size)).trans (hbC.mono (uB hbA.size hbB.size))
    refine wpList_plain rfl (fun K hK=>?_)
    refine pT _ _ rfl w2.heap.size gs.length _ L rfl ((hLA.below hbB).below hbC) (by have:=HLL.out;omega) HBC.size wb.heap.size _ _ rfl (af wb _ 36 0 _ rfl) (af wb _ 36 1 _ rfl) y ((hu1.below hbC).base hbA.size) ((hu2.below hbC).base hbA.size) ?_
    intro gn cn wd hLd hgd
    refine hK _ _ ?_
    have hRd:ta w2 wd gs qs (i+1) (.slice (some ⟨gn,0,none⟩) (L.length+1) cn):=by
     refine⟨HBC.grown hgd HBC.size (fun k hk=>(ap ((hLA.below hbB).below hbC).row hk).1),_,hLd,?_⟩
     rw[uZ,HLM.out,uO,uu hil,←HY.out]
     rfl
    clear hK K hgd hLd HBC hbC hbB hbA hLA hMA hu1 hu2 z0 z1 z2 z3 z4 z5 k0
    try simp only[Act.put,uj,um,ul]
    go_wp2_with fail
    go_roundw
    case rel=>exact⟨i+1,by go_num,by omega,hRd⟩
    case measure=>simp[intOf];omega
   ·have hie:i=nt:=by omega
    subst hie
    obtain⟨L,hL,hLm⟩:=hR.ex
    have hbr:=hR.below
    clear hin hi hR
    go_wp2_with fail
    go_ret2
    refine⟨HB2.trans (hbr.mono HB2.size),_,L,?_,hL.base HB2.size,?_⟩
    ·rw[HPE.out];rfl
    ·rw[hLm,HRS.out,HNT.out,uX]
end Go.Proofs.YtlkniohhalnjjaaGreatDoor
