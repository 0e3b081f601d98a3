/- Lemmas of this claim. -/
import Derived.Test.YtnkgbocdpngldaaGreatDoorXMeet
import Derived.Test.YtnkgbocdpngldaaGreatDoorXStat
set_option linter.all false
set_option maxRecDepth 100000
set_option maxHeartbeats 8000000
namespace Go.Proofs.YtnkgbocdpngldaaGreatDoor
open Go.RowKit Dc Dg
structure cp (B n:Nat) (w:World) (v:Value) (L:List (St×Value×Value)):Prop where
 row:w.ownsRow B 41 2 v L.length (L.flatMap fun t=>[t.2.1,t.2.2])
 ints:∀ t∈L,aJ B w t.2.1 (atL n t.1)∧aJ B w t.2.2 (aG n t.1)
theorem cp.near {B n:Nat}{w w':World}{v:Value}{L:List (St×Value×Value)} (h:cp B n w v L) (hs:∀ k,B≤k→k<w.heap.size→w'.heap[k]?=w.heap[k]?):cp B n w' v L :=
 ⟨cI h.row (fun k hk=>by obtain⟨h1,h2,_⟩:=av h.row hk;exact hs k h1 h2),fun t ht=>⟨(h.ints t ht).1.near hs,(h.ints t ht).2.near hs⟩⟩
theorem cp.below {B n:Nat}{w w':World}{v:Value}{L:List (St×Value×Value)} (h:cp B n w v L) (hb:Below w.heap.size w w'):cp B n w' v L:=h.near (fun k _ hk=>hb.block k hk)
theorem cp.base {B B' n:Nat}{w:World}{v:Value}{L:List (St×Value×Value)} (h:cp B n w v L) (hb:B'≤B):cp B' n w v L:=⟨fM h.row hb,fun t ht=>⟨(h.ints t ht).1.base hb,(h.ints t ht).2.base hb⟩⟩
theorem cp.nil (B n:Nat) (w:World):cp B n w (.slice none 0 0) []:=⟨World.ownsRow_nil _ _ _ _,fun t ht=>by cases ht⟩
theorem cp.slice {B n:Nat}{w:World}{v:Value}{L:List (St×Value×Value)} (h:cp B n w v L):∃ a c,v=.slice a L.length c:=by
 rcases h.row.2 with ⟨rfl,hn⟩ | ⟨g,cap,cur,rfl,_⟩
 ·exact⟨none,0,by rw[hn]⟩
 ·exact⟨_,_,rfl⟩
theorem cp.get {B n:Nat}{w:World}{v:Value}{L:List (St×Value×Value)} (h:cp B n w v L) {i:Nat} (hi:i<L.length):∃ g cap,v=.slice (some ⟨g,0,none⟩) L.length cap∧g<w.heap.size∧w.cell? ⟨g,0+i*2,none⟩=some L[i].2.1∧w.cell? ⟨g,0+i*2+1,none⟩=some L[i].2.2∧aJ B w L[i].2.1 (atL n L[i].1)∧aJ B w L[i].2.2 (aG n L[i].1):=by
 rcases h.row.2 with ⟨rfl,hn⟩ | ⟨g,cap,cur,rfl,hb,hg,h3⟩
 ·omega
 ·obtain⟨f1,f2⟩:=kN (fun t:St×Value×Value=>t.2.1) (fun t=>t.2.2) L i hi
  have c1:=World.ownsRow.cells h.row (g:=g) rfl _ _ f1
  have c2:=World.ownsRow.cells h.row (g:=g) rfl _ _ f2
  rw[ec] at c1 c2
  exact⟨g,cap,rfl,aw hg,c1,by rw[DS];exact c2,(h.ints _ (Dt hi)).1,(h.ints _ (Dt hi)).2⟩
theorem yN:(Tryz.prog.info? 41).map (fun i=>(i.zero,i.size,i.bytes))=some (some (.agg #[.slice none 0 0,.slice none 0 0]),2,48):=by kernel_rfl
theorem Bl:Tryz.prog.underlying 36=some (.slice 41):=by kernel_rfl
theorem xP {o:Oper}{a:Act}{w:World}{K:Act→World→Prop}{Q:Exit→Act→World→Prop} (s x:Operand) (ho:o.op=.call { callee:=.builtin .append,args:=#[s,x],argTypes:=#[36,36] })
  (B n:Nat) (v:Value) (L:List (St×Value×Value)) (hs:a.eval s=v) (hr:cp B n w v L) (hl:L.length≤1000000) (hB:B≤w.heap.size) (b:Nat) (u1 u2:Value) (hx:a.eval x=.slice (some ⟨b,0,none⟩) 1 1) (hb0:w.cell? ⟨b,0,none⟩=some u1) (hb1:w.cell? ⟨b,1,none⟩=some u2)
  (y:St) (h1:aJ B w u1 (atL n y)) (h2:aJ B w u2 (aG n y))
  (h:∀ g cap w',cp B n w' (.slice (some ⟨g,0,none⟩) (L.length+1) cap) (L++[(y,u1,u2)])→w.grownBy w' v.ownBlock→K (a.put o.dst (.slice (some ⟨g,0,none⟩) (L.length+1) cap)) w'):o.wp Tryz.prog a w K Q:=by
 obtain⟨i0,hi,hz0,hz1,hz2⟩:=info_parts yN
 have o1:u1.oneCell'=true:=by obtain⟨_,_,rfl⟩:=h1.slice;rfl
 have o2:u2.oneCell'=true:=by obtain⟨_,_,rfl⟩:=h2.slice;rfl
 refine wp_append_lies w s x 36 ho B 41 i0 (.agg #[.slice none 0 0,.slice none 0 0]) 2 48 Bl hi hz0 hz1 hz2 rfl (by decide) v L.length _ hs hr.row ⟨b,0,none⟩ 1 1 [u1,u2] hx rfl (fun j u hj=>?_) (fun u hu=>?_) (by decide) (by unfold maxLen;omega) (by omega) hB _ rfl (fun g cap w' r1 r2 r3 r4=>?_)
 ·match j,hj with
  | 0,hj=>simp at hj;subst hj;simpa[Addr.add] using hb0
  | 1,hj=>simp at hj;subst hj;simpa[Addr.add] using hb1
 ·simp at hu
  rcases hu with rfl | rfl
  ·exact o1
  ·exact o2
 ·have e:(L++[(y,u1,u2)]).length=L.length+1:=by simp
  have keep:∀ (z:Value) (zs:List Int),aJ B w z zs→aJ B w' z zs:=fun z zs hz=>hz.same (fun k hk=>by
   obtain⟨_,hk2,_⟩:=av hz hk
   exact r2.block k hk2 (fun e2=>fN hr.row hz (by decide) e2.symm hk))
  refine h g cap w' ⟨?_,fun t ht=>?_⟩ r2
  ·rw[e,En]
   exact r1
  ·rcases DA.1 ht with ht | ht
   ·exact⟨keep _ _ (hr.ints t ht).1,keep _ _ (hr.ints t ht).2⟩
   ·simp at ht
    subst ht
    exact⟨keep _ _ h1,keep _ _ h2⟩
def gK (gs:List Gd) (l:List Ev):List St:=if eB gs l=0 then (cm (ah gs) St.zero l).tail else []
def RunQ (w:World) (gs:List Gd) (l:List Ev) (e:Ending) (w':World):Prop :=
 Below w.heap.size w w'∧∃ v L,e=.returned (.tuple #[v,.int .i64 (eB gs l)])∧cp w.heap.size gs.length w' v L∧L.map (·.1)=gK gs l
structure BH (w3 wr:World) (gs:List Gd) (qs:List St) (i:Nat) (v:Value):Prop where
 below:Below w3.heap.size w3 wr
 ex:∃ L,cp w3.heap.size gs.length wr v L∧L.map (·.1)=qs.take i
theorem sJ (M:aH) (x:St) (l:List Ev):∃ t,cm M x l=x :: t∧(cm M x l).tail=t∧t.length=l.length:=by
 cases l with
 | nil=>exact⟨[],rfl,rfl,rfl⟩
 | cons v l=>exact⟨cm M (cE M x v) l,rfl,rfl,by rw[eU];rfl⟩
theorem runN (gs:List Gd) (p:Option Addr) (c:Nat) (v:Value) (l:List Ev) (w:World) (hP:d8 w p c gs) (hE:qQ w v l) (hlen:(l.length:Int)≤9223372036854775807) :
  Calls Tryz.prog 17 #[.agg #[.slice p gs.length c],v] w (RunQ w gs l):=by
 have hb1:Below w.heap.size w (w.alloc (.cells #[.slice p gs.length c] 24)):=(Below.refl _ _).alloc (C6 _) _
 have s0:=heap_alloc_new w (.cells #[.slice p gs.length c] 24)
 have P1:=hP.below hb1
 have E1:=hE.below hb1
 have c0:=ac s0 0
 go_enter Tryz.func17,Tryz.ntmps17
 go_upto_region 1 with fail
 generalize w.alloc (.cells #[.slice p gs.length c] 24)=w1 at *
 go_wp2_with fail
 refine (Bb gs p c v l w1 P1 E1 hlen).mono ?_
 rintro e w2 ⟨hb2,hQ⟩
 have HB2:=hb1.trans (hb2.mono hb1.size)
 rcases hQ with ⟨hne,rfl⟩ | ⟨hpe,mB,vn,vb,mb,Nm,sm,f,qv,rfl,hM,hq⟩
 ·obtain⟨n,hn⟩:∃ n,n=eB gs l:=⟨_,rfl⟩
  rw[←hn] at hne ⊢
  have hd:(n != 0)=true:=by simp[hne]
  have HN:=C5 hn
  have HNE:=C5 hne
  clear hn hne
  go_wp2_with fail
  go_ret2
  refine⟨HB2,_,[],?_,cp.nil _ _ _,?_⟩
  ·rw[←HN.out];rfl
  ·unfold gK
   rw[←HN.out,if_neg HNE.out];rfl
 ·have HPE:=C5 hpe
  obtain⟨qs,hqs,hqt,hql⟩:=sJ (ah gs) St.zero l
  rw[hqs] at hq
  have hrs:gK gs l=qs:=by unfold gK;rw[if_pos hpe,hqt]
  have hlen2:l.length≤256:=by
   unfold eB at hpe
   split at hpe
   ·split at hpe
    ·cases hpe
    ·omega
   ·cases hpe
  rw[←hql] at hlen2
  have HRS:=C5 hrs
  clear hrs hqt hql hpe hqs hlen
  obtain⟨qt,hsl,hqq,hsub⟩:=hq.tail
  obtain⟨aq,cq,eq⟩:=hq.len
  obtain⟨at_,ct,et⟩:=hqq.len
  obtain⟨nq,hnq⟩:∃ nq,nq=(St.zero :: qs).length:=⟨_,rfl⟩
  obtain⟨nt,hnt⟩:∃ nt,nt=qs.length:=⟨_,rfl⟩
  rw[←hnq] at eq
  rw[←hnt] at et hlen2
  subst eq
  subst et
  have HNT:=C5 hnt
  clear hnq hnt hsub hq
  have R0:BH w2 w2 gs qs 0 (.slice none 0 0):=⟨Below.refl _ _,[],cp.nil _ _ _,rfl⟩
  go_wp2_with fail
  clear hsl
  have HQT:=C5 hqq
  have hMz:=C5 hM
  clear hqq hM
  obtain⟨hl1,hl3⟩:1≤gs.length∧gs.length≤3:=a_ (by have:=HPE.out;unfold eB at this;by_cases h:aX gs=true;exact h;rw[if_neg h] at this;cases this)
  go_loopw [25,9] (fun s25 s9 wr=>∃ i:Nat,s25=.int .i64 i∧i≤nt∧BH w2 wr gs qs i s9) (fun s25 _ _=>nt-(intOf s25).toNat)
  case atStart=>exact⟨0,rfl,by omega,R0⟩
  case round =>
   clear R0
   obtain⟨i,rfl,hi,hR⟩:=hrel
   by_cases hin:i<nt
   ·have hil:i<qs.length:=by have:=HNT.out;omega
    obtain⟨L,hL,hLm⟩:=hR.ex
    have hLl:L.length=i:=by have:=congrArg List.length hLm;simp only[Em,Dy] at this;omega
    have hqr:=HQT.out.below (hR.below.mono (C6 _))
    obtain⟨g,off,cap,e1,hgl,q0,q1,q2,q3,q4,q5⟩:=hqr.get hil
    have e2:at_=some ⟨g,off,none⟩∧cap=ct:=by
     simp only[Value.slice.injEq] at e1
     exact⟨e1.1,e1.2.2.symm⟩
    obtain⟨rfl,rfl⟩:=e2
    obtain⟨y,hy⟩:∃ y,y=qs[i]:=⟨_,rfl⟩
    rw[←hy] at q0 q1 q2 q3 q4 q5
    have HY:=C5 hy
    have HLM:=C5 hLm
    have HLL:=C5 hLl
    have hMr:=hMz.out.below hR.below
    have hbA:Below w2.heap.size w2 (wr.alloc (.cells #[.int .i64 y.a0,.int .i64 y.a1,.int .i64 y.a2,.int .i64 y.f0,.int .i64 y.f1,.int .i64 y.f2] 87)):=hR.below.alloc hR.below.size _
    have hbA':=(Below.refl wr.heap.size wr).alloc (C6 _) (.cells #[.int .i64 y.a0,.int .i64 y.a1,.int .i64 y.a2,.int .i64 y.f0,.int .i64 y.f1,.int .i64 y.f2] 87)
    have k0:=StP.new wr y
    have hLA:=hL.below hbA'
    have hMA:=hMr.below hbA'
    obtain⟨ao,co,hvo⟩:=hL.slice
    subst hvo
    clear hy hLm hqr e1 hLl
    go_upto_region 8 with fail
    generalize wr.alloc (.cells #[.int .i64 y.a0,.int .i64 y.a1,.int .i64 y.a2,.int .i64 y.f0,.int .i64 y.f1,.int .i64 y.f2] 87)=wa at *
    have z0:=k0.cell 0;have z1:=k0.cell 1;have z2:=k0.cell 2;have z3:=k0.cell 3;have z4:=k0.cell 4;have z5:=k0.cell 5
    clear q0 q1 q2 q3 q4 q5 hbA' hL hMr hR hgl
    refine wp_region_lit ?_
    refine wpList_plain rfl (fun K hK=>?_)
    go_simp
    refine hK _ _ ?_
    clear hK K
    try simp only[Act.put,CY,C1,CZ]
    refine wpList_plain rfl (fun K hK=>?_)
    go_simp
    refine hK _ _ ?_
    clear hK K
    try simp only[Act.put,CY,C1,CZ]
    refine wpList_plain rfl (fun K hK=>?_)
    go_simp
    refine hK _ _ ?_
    clear hK K
    try simp only[Act.put,CY,C1,CZ]
    refine wpList_plain rfl (fun K hK=>?_)
    go_simp
    refine (qG gs p c mB y wa hMA.m0 hl3).mono ?_
    rintro e wb ⟨vs,rfl,⟨u1,u2,rfl,hu1,hu2⟩,hbB⟩
    obtain⟨p1,c1,rfl⟩:=hu1.slice
    obtain⟨p2,c2,rfl⟩:=hu2.slice
    refine hK _ _ ?_
    clear hK K
    try simp only[Act.put,CY,C1,CZ]
    refine wpList_plain rfl (fun K hK=>?_)
    go_simp
    refine hK _ _ ?_
    clear hK K
    try simp only[Act.put,CY,C1,CZ]
    have hbC:Below wb.heap.size wb (wb.alloc (.cells #[.slice p1 (atL gs.length y).length c1,.slice p2 (aG gs.length y).length c2] 41)):=(Below.refl _ _).alloc (C6 _) _
    have HBC:=(hbA.trans (hbB.mono hbA.size)).trans (hbC.mono (Df hbA.size hbB.size))
    refine wpList_plain rfl (fun K hK=>?_)
    refine xP _ _ rfl w2.heap.size gs.length _ L rfl ((hLA.below hbB).below hbC) (by have:=HLL.out;omega) HBC.size wb.heap.size _ _ rfl (an wb _ 41 0 _ rfl) (an wb _ 41 1 _ rfl) y ((hu1.below hbC).base hbA.size) ((hu2.below hbC).base hbA.size) ?_
    intro gn cn wd hLd hgd
    refine hK _ _ ?_
    have hRd:BH w2 wd gs qs (i+1) (.slice (some ⟨gn,0,none⟩) (L.length+1) cn):=by
     refine⟨HBC.grown hgd HBC.size (fun k hk=>(av ((hLA.below hbB).below hbC).row hk).1),_,hLd,?_⟩
     rw[DY,HLM.out,DH,C7 hil,←HY.out]
     rfl
    clear hK K hgd hLd HBC hbC hbB hbA hLA hMA hu1 hu2 z0 z1 z2 z3 z4 z5 k0
    try simp only[Act.put,CY,C1,CZ]
    go_wp2_with fail
    go_roundw
    case rel=>exact⟨i+1,by go_num,by omega,hRd⟩
    case measure=>simp[intOf];omega
   ·have hie:i=nt:=by omega
    subst hie
    obtain⟨L,hL,hLm⟩:=hR.ex
    have hbr:=hR.below
    clear hin hi hR
    go_wp2_with fail
    go_ret2
    refine⟨HB2.trans (hbr.mono HB2.size),_,L,?_,hL.base HB2.size,?_⟩
    ·rw[HPE.out];rfl
    ·rw[hLm,HRS.out,HNT.out,DG]
def CU:ByteArray:=⟨#[97,114,109]⟩
def Bn:ByteArray:=⟨#[112,111,119,101,114]⟩
def ur:ByteArray:=⟨#[100,111,119,110]⟩
def qK:ByteArray:=⟨#[103,114,101,101,110]⟩
def ol:ByteArray:=⟨#[104,101,108,100]⟩
def As:ByteArray:=⟨#[108,111,119]⟩
def Ar:ByteArray:=⟨#[102,117,108,108]⟩
def Au:ByteArray:=⟨#[]⟩
def BN:List Rg:=[⟨ur,qK,ur,1,1,[],[]⟩,⟨qK,ol,ur,2,5,[],[]⟩,⟨ol,Au,qK,1,10,[],[]⟩]
def Cc:List Rg:=[⟨As,Ar,As,1,2,[],[]⟩,⟨Ar,Au,As,1,3,[⟨0,[ol]⟩],[]⟩]
def gr:List Gd:=[⟨CU,BN⟩,⟨Bn,Cc⟩]
theorem qy (W:World):fb W none []:=⟨fun h=>absurd h (by decide)⟩
theorem nH (W:World):e_ W none []:=⟨fun h=>absurd h (by decide)⟩
theorem armP (W:World) (b1 b2 b3 b4 b5:Nat)
  (h1:W.heap[b1]?=some (.cells #[.string ⟨#[100,111,119,110]⟩,.string ⟨#[103,114,101,101,110]⟩,.string ⟨#[100,111,119,110]⟩,.int .i64 1,.int .i64 1,.slice none 0 0,.slice none 0 0,.string ⟨#[103,114,101,101,110]⟩,.string ⟨#[104,101,108,100]⟩,.string ⟨#[100,111,119,110]⟩,.int .i64 2,.int .i64 5,.slice none 0 0,.slice none 0 0,.string ⟨#[104,101,108,100]⟩,.string ⟨#[]⟩,.string ⟨#[103,114,101,101,110]⟩,.int .i64 1,.int .i64 10,.slice none 0 0,.slice none 0 0] 59 (0,0)))
  (h2:W.heap[b2]?=some (.cells #[.string ⟨#[104,101,108,100]⟩] 9 (0,0)))
  (h3:W.heap[b3]?=some (.cells #[.int .i64 0,.slice (some ⟨b2,0,none⟩) 1 1] 65 (0,0)))
  (h4:W.heap[b4]?=some (.cells #[.string ⟨#[108,111,119]⟩,.string ⟨#[102,117,108,108]⟩,.string ⟨#[108,111,119]⟩,.int .i64 1,.int .i64 2,.slice none 0 0,.slice none 0 0,.string ⟨#[102,117,108,108]⟩,.string ⟨#[]⟩,.string ⟨#[108,111,119]⟩,.int .i64 1,.int .i64 3,.slice (some ⟨b3,0,none⟩) 1 1,.slice none 0 0] 59 (0,0)))
  (h5:W.heap[b5]?=some (.cells #[.string ⟨#[97,114,109]⟩,.slice (some ⟨b1,0,none⟩) 3 3,.string ⟨#[112,111,119,101,114]⟩,.slice (some ⟨b4,0,none⟩) 2 2] 62 (0,0)))
  : bE W (some ⟨b5,0,none⟩) gr:=by
 have hw:cV W (some ⟨b2,0,none⟩) [ol]:=⟨fun _=>⟨b2,0,rfl,aw h2,fun i hi=>by
  match i,hi with
  | 0,_=>exact (ac h2 _).trans rfl⟩⟩
 have hn:fb W (some ⟨b3,0,none⟩) [⟨0,[ol]⟩]:=⟨fun _=>⟨b3,0,rfl,aw h3,fun i hi=>by
  match i,hi with
  | 0,_=>exact⟨some ⟨b2,0,none⟩,1,(ac h3 _).trans rfl,(ac h3 _).trans rfl,hw⟩⟩⟩
 have hr:cT W (some ⟨b1,0,none⟩) BN:=⟨fun _=>⟨b1,0,rfl,aw h1,fun i hi=>by
  match i,hi with
  | 0,_=>exact⟨none,0,none,0,(ac h1 _).trans rfl,(ac h1 _).trans rfl,(ac h1 _).trans rfl,(ac h1 _).trans rfl,(ac h1 _).trans rfl,(ac h1 _).trans rfl,(ac h1 _).trans rfl,qy _,nH _⟩
  | 1,_=>exact⟨none,0,none,0,(ac h1 _).trans rfl,(ac h1 _).trans rfl,(ac h1 _).trans rfl,(ac h1 _).trans rfl,(ac h1 _).trans rfl,(ac h1 _).trans rfl,(ac h1 _).trans rfl,qy _,nH _⟩
  | 2,_=>exact⟨none,0,none,0,(ac h1 _).trans rfl,(ac h1 _).trans rfl,(ac h1 _).trans rfl,(ac h1 _).trans rfl,(ac h1 _).trans rfl,(ac h1 _).trans rfl,(ac h1 _).trans rfl,qy _,nH _⟩⟩⟩
 have hp:cT W (some ⟨b4,0,none⟩) Cc:=⟨fun _=>⟨b4,0,rfl,aw h4,fun i hi=>by
  match i,hi with
  | 0,_=>exact⟨none,0,none,0,(ac h4 _).trans rfl,(ac h4 _).trans rfl,(ac h4 _).trans rfl,(ac h4 _).trans rfl,(ac h4 _).trans rfl,(ac h4 _).trans rfl,(ac h4 _).trans rfl,qy _,nH _⟩
  | 1,_=>exact⟨some ⟨b3,0,none⟩,1,none,0,(ac h4 _).trans rfl,(ac h4 _).trans rfl,(ac h4 _).trans rfl,(ac h4 _).trans rfl,(ac h4 _).trans rfl,(ac h4 _).trans rfl,(ac h4 _).trans rfl,hn,nH _⟩⟩⟩
 exact⟨fun _=>⟨b5,0,rfl,aw h5,fun i hi=>by
  match i,hi with
  | 0,_=>exact⟨some ⟨b1,0,none⟩,3,(ac h5 _).trans rfl,(ac h5 _).trans rfl,hr⟩
  | 1,_=>exact⟨some ⟨b4,0,none⟩,2,(ac h5 _).trans rfl,(ac h5 _).trans rfl,hp⟩⟩⟩
theorem BM:Az gr:=by
 have hR:∀ g∈gr,∀ r∈g.rungs,mK r:=by
  intro g hg r hr
  simp only[gr,Dk,Dm,or_false] at hg
  rcases hg with rfl | rfl
  ·simp only[BN,Dk,Dm,or_false] at hr
   rcases hr with rfl | rfl | rfl<;>exact⟨by decide,by decide,by decide,fun x hx=>by cases hx⟩
  ·simp only[Cc,Dk,Dm,or_false] at hr
   rcases hr with rfl | rfl
   ·exact⟨by decide,by decide,by decide,fun x hx=>by cases hx⟩
   ·refine⟨by decide,by decide,by decide,fun x hx=>?_⟩
    simp only[Dk,Dm,or_false] at hx
    subst hx
    decide
 refine⟨fun g hg=>?_,hR,fun g hg=>?_⟩
 ·simp only[gr,Dk,Dm,or_false] at hg
  rcases hg with rfl | rfl<;>decide
 ·simp only[gr,Dk,Dm,or_false] at hg
  rcases hg with rfl | rfl<;>decide
theorem AF (w:World) (hX:Gx w):Calls Tryz.prog 53 #[] w (fun e w'=>∃ p c,e=.returned (.agg #[.slice p 2 c])∧d8 w' p c gr∧Below w.heap.size w w'):=by
 go_enter Tryz.func53,Tryz.ntmps53
 go_wp2_with fail
 obtain⟨v0,hv0⟩:∃ v0,v0=w.alloc (.cells #[.slice (some ⟨w.heap.size+1+1+1+1+1,0,none⟩) 2 2] 24):=⟨_,rfl⟩
 have z0:v0.heap.size=w.heap.size+1:=by rw[hv0];simp
 have n0:v0.heap[w.heap.size]?=some (.cells #[.slice (some ⟨w.heap.size+1+1+1+1+1,0,none⟩) 2 2] 24 (0,0)):=by rw[hv0];exact heap_alloc_new _ _
 have d0:Below w.heap.size w v0:=by rw[hv0];exact (Below.refl _ _).alloc (C6 _) _
 obtain⟨v1,hv1⟩:∃ v1,v1=v0.alloc (.cells #[.string ⟨#[100,111,119,110]⟩,.string ⟨#[103,114,101,101,110]⟩,.string ⟨#[100,111,119,110]⟩,.int .i64 1,.int .i64 1,.slice none 0 0,.slice none 0 0,.string ⟨#[103,114,101,101,110]⟩,.string ⟨#[104,101,108,100]⟩,.string ⟨#[100,111,119,110]⟩,.int .i64 2,.int .i64 5,.slice none 0 0,.slice none 0 0,.string ⟨#[104,101,108,100]⟩,.string ⟨#[]⟩,.string ⟨#[103,114,101,101,110]⟩,.int .i64 1,.int .i64 10,.slice none 0 0,.slice none 0 0] 59):=⟨_,rfl⟩
 have z1:v1.heap.size=w.heap.size+1+1:=by rw[hv1];simp[z0]
 have n1:v1.heap[w.heap.size+1]?=some (.cells #[.string ⟨#[100,111,119,110]⟩,.string ⟨#[103,114,101,101,110]⟩,.string ⟨#[100,111,119,110]⟩,.int .i64 1,.int .i64 1,.slice none 0 0,.slice none 0 0,.string ⟨#[103,114,101,101,110]⟩,.string ⟨#[104,101,108,100]⟩,.string ⟨#[100,111,119,110]⟩,.int .i64 2,.int .i64 5,.slice none 0 0,.slice none 0 0,.string ⟨#[104,101,108,100]⟩,.string ⟨#[]⟩,.string ⟨#[103,114,101,101,110]⟩,.int .i64 1,.int .i64 10,.slice none 0 0,.slice none 0 0] 59 (0,0)):=by rw[hv1,←z0];exact heap_alloc_new _ _
 have d1:Below v0.heap.size v0 v1:=by rw[hv1];exact (Below.refl _ _).alloc (C6 _) _
 obtain⟨v2,hv2⟩:∃ v2,v2=v1.alloc (.cells #[.string ⟨#[104,101,108,100]⟩] 9):=⟨_,rfl⟩
 have z2:v2.heap.size=w.heap.size+1+1+1:=by rw[hv2];simp[z1]
 have n2:v2.heap[w.heap.size+1+1]?=some (.cells #[.string ⟨#[104,101,108,100]⟩] 9 (0,0)):=by rw[hv2,←z1];exact heap_alloc_new _ _
 have d2:Below v1.heap.size v1 v2:=by rw[hv2];exact (Below.refl _ _).alloc (C6 _) _
 obtain⟨v3,hv3⟩:∃ v3,v3=v2.alloc (.cells #[.int .i64 0,.slice (some ⟨w.heap.size+1+1,0,none⟩) 1 1] 65):=⟨_,rfl⟩
 have z3:v3.heap.size=w.heap.size+1+1+1+1:=by rw[hv3];simp[z2]
 have n3:v3.heap[w.heap.size+1+1+1]?=some (.cells #[.int .i64 0,.slice (some ⟨w.heap.size+1+1,0,none⟩) 1 1] 65 (0,0)):=by rw[hv3,←z2];exact heap_alloc_new _ _
 have d3:Below v2.heap.size v2 v3:=by rw[hv3];exact (Below.refl _ _).alloc (C6 _) _
 obtain⟨v4,hv4⟩:∃ v4,v4=v3.alloc (.cells #[.string ⟨#[108,111,119]⟩,.string ⟨#[102,117,108,108]⟩,.string ⟨#[108,111,119]⟩,.int .i64 1,.int .i64 2,.slice none 0 0,.slice none 0 0,.string ⟨#[102,117,108,108]⟩,.string ⟨#[]⟩,.string ⟨#[108,111,119]⟩,.int .i64 1,.int .i64 3,.slice (some ⟨w.heap.size+1+1+1,0,none⟩) 1 1,.slice none 0 0] 59):=⟨_,rfl⟩
 have z4:v4.heap.size=w.heap.size+1+1+1+1+1:=by rw[hv4];simp[z3]
 have n4:v4.heap[w.heap.size+1+1+1+1]?=some (.cells #[.string ⟨#[108,111,119]⟩,.string ⟨#[102,117,108,108]⟩,.string ⟨#[108,111,119]⟩,.int .i64 1,.int .i64 2,.slice none 0 0,.slice none 0 0,.string ⟨#[102,117,108,108]⟩,.string ⟨#[]⟩,.string ⟨#[108,111,119]⟩,.int .i64 1,.int .i64 3,.slice (some ⟨w.heap.size+1+1+1,0,none⟩) 1 1,.slice none 0 0] 59 (0,0)):=by rw[hv4,←z3];exact heap_alloc_new _ _
 have d4:Below v3.heap.size v3 v4:=by rw[hv4];exact (Below.refl _ _).alloc (C6 _) _
 obtain⟨v5,hv5⟩:∃ v5,v5=v4.alloc (.cells #[.string ⟨#[97,114,109]⟩,.slice (some ⟨w.heap.size+1,0,none⟩) 3 3,.string ⟨#[112,111,119,101,114]⟩,.slice (some ⟨w.heap.size+1+1+1+1,0,none⟩) 2 2] 62):=⟨_,rfl⟩
 have z5:v5.heap.size=w.heap.size+1+1+1+1+1+1:=by rw[hv5];simp[z4]
 have n5:v5.heap[w.heap.size+1+1+1+1+1]?=some (.cells #[.string ⟨#[97,114,109]⟩,.slice (some ⟨w.heap.size+1,0,none⟩) 3 3,.string ⟨#[112,111,119,101,114]⟩,.slice (some ⟨w.heap.size+1+1+1+1,0,none⟩) 2 2] 62 (0,0)):=by rw[hv5,←z4];exact heap_alloc_new _ _
 have d5:Below v4.heap.size v4 v5:=by rw[hv5];exact (Below.refl _ _).alloc (C6 _) _
 rw[←hv0,←hv1,←hv2,←hv3,←hv4,←hv5]
 clear hv0 hv1 hv2 hv3 hv4 hv5
 have hG:=armP v5 (w.heap.size+1) (w.heap.size+1+1) (w.heap.size+1+1+1) (w.heap.size+1+1+1+1) (w.heap.size+1+1+1+1+1) ((d5.block _ (by omega)).trans ((d4.block _ (by omega)).trans ((d3.block _ (by omega)).trans ((d2.block _ (by omega)).trans (n1))))) ((d5.block _ (by omega)).trans ((d4.block _ (by omega)).trans ((d3.block _ (by omega)).trans (n2)))) ((d5.block _ (by omega)).trans ((d4.block _ (by omega)).trans (n3))) ((d5.block _ (by omega)).trans (n4)) (n5)
 have hB:Below w.heap.size w v5:=((((d0.trans (d1.mono (by omega))).trans (d2.mono (by omega))).trans (d3.mono (by omega))).trans (d4.mono (by omega))).trans (d5.mono (by omega))
 have q0:v5.cell? ⟨w.heap.size,0,none⟩=some (.slice (some ⟨w.heap.size+1+1+1+1+1,0,none⟩) 2 2):=ac ((d5.block _ (by omega)).trans ((d4.block _ (by omega)).trans ((d3.block _ (by omega)).trans ((d2.block _ (by omega)).trans ((d1.block _ (by omega)).trans (n0)))))) 0
 try simp only[Exit.inBlock,Exit.then]
 refine bodyPost_ret (v:=.agg #[.slice (some ⟨w.heap.size+1+1+1+1+1,0,none⟩) 2 2]) (by simp[results,Tryz.results53,go_sem,q0]) rfl ?_
 exact⟨_,_,rfl,⟨hG,hX.below hB,BM,by decide,by decide⟩,hB⟩
def ku:List Ev:=[⟨0,0⟩,⟨0,0⟩,⟨1,0⟩]
def uM:List Ev:=[⟨0,0⟩,⟨0,0⟩,⟨1,0⟩,⟨0,2⟩]
theorem AG:aX gr=true:=by decide +kernel
theorem xQ:eB gr uM=0:=by decide +kernel
theorem tj:gK gr uM=[⟨1,0,0,0,0,0⟩,⟨2,0,0,0,0,0⟩,⟨2,1,0,0,0,0⟩,⟨0,0,0,0,0,0⟩]:=by decide +kernel
theorem qY:ix gr (0,2) (1,1)=(ku,0):=by decide +kernel
theorem vB:mV gr=4:=by decide +kernel
theorem vC:oq gr 0 1=(12,0):=by decide +kernel
theorem EvR.q {n:Nat}{w:World}{v:Value}{l:List Ev} (h:EvR n w v l):qQ w v l:=by
 rcases h.2 with ⟨rfl,hn⟩ | ⟨g,cap,cur,rfl,hb,hg,h3⟩
 ·exact⟨none,0,by rw[hn],fun hl=>by omega⟩
 ·refine⟨some ⟨g,0,none⟩,cap,rfl,fun hl=>⟨g,0,rfl,aw hg,fun i hi=>?_⟩⟩
  obtain⟨f1,f2⟩:=kN (fun t:Ev=>Value.int .i64 t.g) (fun t=>.int .i64 t.k) l i hi
  have c1:=World.ownsRow.cells h (g:=g) rfl _ _ f1
  have c2:=World.ownsRow.cells h (g:=g) rfl _ _ f2
  rw[ec] at c1 c2
  exact⟨c1,by rw[DS];exact c2⟩
theorem Ai (w:World):Calls Tryz.prog 54 #[] w (fun e w'=>∃ c,e=.returned (.slice (some ⟨w.heap.size,0,none⟩) 3 c)∧EvR w.heap.size w' (.slice (some ⟨w.heap.size,0,none⟩) 3 c) ku∧Below w.heap.size w w'):=by
 have h0:=heap_alloc_new w (.cells #[.int .i64 0,.int .i64 0,.int .i64 0,.int .i64 0,.int .i64 1,.int .i64 0] 53)
 have hb:Below w.heap.size w (w.alloc (.cells #[.int .i64 0,.int .i64 0,.int .i64 0,.int .i64 0,.int .i64 1,.int .i64 0] 53)):=(Below.refl _ _).alloc (C6 _) _
 go_enter Tryz.func54,Tryz.ntmps54
 go_wp2_with fail
 go_ret
 exact⟨3,rfl,⟨rfl,Or.inr ⟨_,3,_,rfl,C6 _,h0,C6 _,by unfold maxLen;omega,rfl,rfl⟩⟩,hb⟩
theorem rN (w:World) (a b:Int):aN (w.alloc (.cells #[.int .i64 a,.int .i64 b] 3)) (.slice (some ⟨w.heap.size,0,none⟩) 2 2) [a,b] :=
 ⟨_,_,rfl,fun _=>⟨_,_,rfl,by simp,fun i hi=>by
  match i,hi with
  | 0,_=>exact an w #[.int .i64 a,.int .i64 b] 3 0 _ rfl
  | 1,_=>exact an w #[.int .i64 a,.int .i64 b] 3 1 _ rfl⟩⟩
theorem B6 {L:List (St×Value×Value)}{l:List St} (h:L.map (·.1)=l) {i:Nat} (hi:i<L.length) (hl:i<l.length):L[i].1=l[i]:=by
 subst h
 simp
theorem sL {B n:Nat}{w:World}{v:Value}{L:List (St×Value×Value)}{l:List St} (h:cp B n w v L) (hm:L.map (·.1)=l) {i:Nat} (hi:i<l.length):∃ g cap u1 u2,v=.slice (some ⟨g,0,none⟩) l.length cap∧g<w.heap.size∧w.cell? ⟨g,0+i*2,none⟩=some u1∧w.cell? ⟨g,0+i*2+1,none⟩=some u2∧aJ B w u1 (atL n l[i])∧aJ B w u2 (aG n l[i]):=by
 have hl:L.length=l.length:=by rw[←hm];simp
 obtain⟨g,cap,e1,hgl,s1,s2,i1,i2⟩:=h.get (i:=i) (by omega)
 rw[B6 hm (by omega) hi] at i1 i2
 rw[hl] at e1
 exact⟨g,cap,_,_,e1,hgl,s1,s2,i1,i2⟩
theorem Ck (w:World) (hX:Gx w):Calls Tryz.prog 16 #[] w (fun e w'=>e=.returned (.bool true)∧Below w.heap.size w w'):=by
 go_enter Tryz.func16,Tryz.ntmps16
 go_wp2_with fail
 refine (AF w hX).mono ?_
 rintro e w1 ⟨p1,c1,rfl,hP1,hb1⟩
 go_wp2_with fail
 refine (Ai w1).mono ?_
 rintro e w2 ⟨c2,rfl,hE2,hb2⟩
 have hb3:Below w2.heap.size w2 (w2.alloc (.cells #[.int .i64 0,.int .i64 2] 53)):=(Below.refl _ _).alloc (C6 _) _
 have hE3:=hE2.below hb3
 have q0:=an w2 #[.int .i64 0,.int .i64 2] 53 0 _ rfl
 have q1:=an w2 #[.int .i64 0,.int .i64 2] 53 1 _ rfl
 have hz3:=hb3.size
 go_wp2_with (at_builtin;refine xN rfl _ _ rfl w1.heap.size _ ku rfl hE3 (by decide) (Df hb2.size hz3) w2.heap.size ⟨0,2⟩ rfl q0 q1 ?_;intro g4 c4 w4 hE4 hg4)
 have B14:Below w1.heap.size w1 w4:=(hb2.trans (hb3.mono hb2.size)).grown hg4 (Df hb2.size hz3) (fun k hk=>by cases hk;exact C6 _)
 have hP4:=hP1.below B14
 have B4:=hb1.trans (B14.mono hb1.size)
 have hr:=runN gr p1 c1 _ uM w4 hP4 hE4.q (by decide)
 clear hP1 hP4 hE4 hE3 hE2 q0 q1 hz3 hb3 hb2 hb1 hg4 B14
 refine hr.mono ?_
 rintro e w5 ⟨hb5,v5,L,rfl,hL,hLm⟩
 rw[tj] at hLm
 have B5:=B4.trans (hb5.mono B4.size)
 have hX5:=hX.below B5
 obtain⟨z,hz⟩:∃ z,z=eB gr uM:=⟨_,rfl⟩
 rw[←hz]
 rw[xQ] at hz
 subst hz
 obtain⟨ao,co,rfl⟩:=hL.slice
 obtain⟨nL,hnL⟩:∃ nL,nL=L.length:=⟨_,rfl⟩
 have h4:nL=4:=by rw[hnL];have:=congrArg List.length hLm;simpa using this
 rw[←hnL]
 have HNL:=C5 hnL
 clear hnL hr
 subst h4
 go_wp2_with fail
 refine (AF w5 hX5).mono ?_
 rintro e w6 ⟨p6,c6,rfl,hP6,hb6⟩
 go_wp2_with fail
 refine (CQ gr p6 c6 (0,2) (1,1) w6 hP6).mono ?_
 rintro e w7 ⟨v7,rfl,hE7,hb7⟩
 rw[qY] at hE7
 obtain⟨z,hz⟩:∃ z,z=(ix gr (0,2) (1,1)).2:=⟨_,rfl⟩
 rw[←hz]
 rw[qY] at hz
 simp only at hz
 subst hz
 have B7:=(B5.trans (hb6.mono B5.size)).trans (hb7.mono (Df B5.size hb6.size))
 have hX7:=hX.below B7
 go_wp2_with fail
 refine (AF w7 hX7).mono ?_
 rintro e w8 ⟨p8,c8,rfl,hP8,hb8⟩
 go_wp2_with fail
 refine (BS gr p8 c8 w8 hP8).mono ?_
 rintro e w9 ⟨rfl,hb9⟩
 rw[vB,AG]
 simp only[if_true]
 have B9:=(B7.trans (hb8.mono B7.size)).trans (hb9.mono (Df B7.size hb8.size))
 have hX9:=hX.below B9
 go_wp2_with fail
 refine (AF w9 hX9).mono ?_
 rintro e w10 ⟨p10,c10,rfl,hP10,hb10⟩
 go_wp2_with fail
 refine (Cm gr p10 c10 0 1 w10 hP10).mono ?_
 rintro e w11 ⟨rfl,hb11⟩
 rw[vC]
 have B11:=(B9.trans (hb10.mono B9.size)).trans (hb11.mono (Df B9.size hb10.size))
 have b57:Below w5.heap.size w5 w7:=hb6.trans (hb7.mono hb6.size)
 have b79:Below w7.heap.size w7 w9:=hb8.trans (hb9.mono hb8.size)
 have b911:Below w9.heap.size w9 w11:=hb10.trans (hb11.mono hb10.size)
 have b711:Below w7.heap.size w7 w11:=b79.trans (b911.mono b79.size)
 have hL11:=hL.below (b57.trans (b711.mono b57.size))
 have hE11:=hE7.below b711
 go_upto_region 5 with fail
 have hL11':cp w4.heap.size gr.length w11 (.slice ao 4 co) L:=by rw[HNL.out];exact hL11
 obtain⟨g,cap,u2,_,e1,hgl,s2,_,i2,_⟩:=sL hL11' hLm (i:=2) (by decide)
 obtain⟨g',cap',u3,_,e2,_,s3,_,i3,_⟩:=sL hL11' hLm (i:=3) (by decide)
 cases e1
 cases e2
 have j2:aN w11 u2 [2,1]:=i2.q
 have j3:aN w11 u3 [0,0]:=i3.q
 obtain⟨a2,k2,hs2⟩:=i2.slice
 obtain⟨a3,k3,hs3⟩:=i3.slice
 have s2:w11.cell? ⟨g,4,none⟩=some u2:=s2
 have s3:w11.cell? ⟨g,6,none⟩=some u3:=s3
 subst hs2
 subst hs3
 have jE:=hE11.q
 clear hLm hL hL11 hL11' i2 i3 HNL hE7 hE11 hb5 hb6 hb7 hb8 hb9 hb10 hb11 b57 b79 b911 b711
 go_wp2_with fail
 have hbA:Below w11.heap.size w11 (w11.alloc (.cells #[.int .i64 2,.int .i64 1] 3)):=(Below.refl _ _).alloc (C6 _) _
 refine (jC _ _ [2,1] [2,1] _ (j2.below hbA) (rN w11 2 1) (by decide) (by decide)).mono ?_
 rintro e w12 ⟨rfl,hb12⟩
 rw[show decide (([2,1]:List Int)=[2,1])=true from rfl]
 have b12:Below w11.heap.size w11 w12:=hbA.trans (hb12.mono hbA.size)
 have s3:=(b12.cell (p:=⟨g,6,none⟩) hgl).trans s3
 have j3:=j3.below b12
 have jE:=jE.below b12
 have B12:=B11.trans (b12.mono B11.size)
 clear hbA hb12 b12 j2 s2
 go_wp2_with fail
 have hbA:Below w12.heap.size w12 (w12.alloc (.cells #[.int .i64 0,.int .i64 0] 3)):=(Below.refl _ _).alloc (C6 _) _
 refine (jC _ _ [0,0] [0,0] _ (j3.below hbA) (rN w12 0 0) (by decide) (by decide)).mono ?_
 rintro e w13 ⟨rfl,hb13⟩
 rw[show decide (([0,0]:List Int)=[0,0])=true from rfl]
 have b13:Below w12.heap.size w12 w13:=hbA.trans (hb13.mono hbA.size)
 have jE:=jE.below b13
 have B13:=B12.trans (b13.mono B12.size)
 clear hbA hb13 b13 j3 s3
 go_wp2_with fail
 refine (Ai w13).mono ?_
 rintro e w14 ⟨c14,rfl,hE14,hb14⟩
 have jE:=jE.below hb14
 have B14:=B13.trans (hb14.mono B13.size)
 go_wp2_with fail
 refine (sB _ _ ku ku _ jE hE14.q (by decide) (by decide)).mono ?_
 rintro e w15 ⟨rfl,hb15⟩
 rw[show decide (ku=ku)=true from by simp]
 go_wp2_with fail
 go_ret
 exact⟨rfl,B14.trans (hb15.mono B14.size)⟩
end Go.Proofs.YtnkgbocdpngldaaGreatDoor
