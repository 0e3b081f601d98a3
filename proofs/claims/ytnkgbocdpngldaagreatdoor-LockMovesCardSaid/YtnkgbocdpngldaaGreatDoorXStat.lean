/- Lemmas of this claim. -/
import Derived.Test.YtnkgbocdpngldaaGreatDoorXMach
import Derived.Test.YtnkgbocdpngldaaGreatDoorXCnt
import Derived.Test.YtnkgbocdpngldaaGreatDoorXMeet
set_option linter.all false
set_option maxRecDepth 100000
set_option maxHeartbeats 8000000
namespace Go.Proofs.YtnkgbocdpngldaaGreatDoor
open Go.RowKit Dc Dg
def atL (n:Nat) (x:St):List Int:=[x.a0,x.a1,x.a2].take n
def aG (n:Nat) (x:St):List Int:=[x.f0,x.f1,x.f2].take n
def uz (B n:Nat) (w:World) (v:Value) (x:St):Prop:=∃ u1 u2,v=.agg #[u1,u2]∧aJ B w u1 (atL n x)∧aJ B w u2 (aG n x)
theorem aJ.setOld {n:Nat}{w:World}{v:Value}{l:List Int} (h:aJ n w v l) {b i:Nat} (u:Value) (hb:b<n):aJ n (w.setCell ⟨b,i,none⟩ u) v l :=
 h.same (fun k hk=>by have:=(av h hk).1;exact heap_setCell_other _ _ _ _ (by show k≠b;omega))
theorem aJ.below {n:Nat}{w w':World}{v:Value}{l:List Int} (h:aJ n w v l) (hb:Below w.heap.size w w'):aJ n w' v l :=
 h.same (fun k hk=>hb.block k (av h hk).2.1)
theorem aJ.slice {n:Nat}{w:World}{v:Value}{l:List Int} (h:aJ n w v l):∃ a c,v=.slice a l.length c:=by
 rcases h.2 with ⟨rfl,hn⟩ | ⟨g,cap,cur,rfl,_⟩
 ·exact⟨none,0,by rw[hn]⟩
 ·exact⟨_,_,rfl⟩
theorem AL {w:World}{b:Nat}{x:St} (hS:StP w b x) (n:Nat) (hn:n≤3):Calls Tryz.prog 85 #[.slice (some ⟨b,0,none⟩) n 3] w fun e w'=>∃ v',e=.returned v'∧aJ w.heap.size w' v' (atL n x)∧Below w.heap.size w w':=by
 refine (Tryz.slices_Clone_int b 0 n 3 [x.a0,x.a1,x.a2] w (by simp;omega) (by omega) (fun j hj=>?_)).mono ?_
 ·rw[hS.cell,D5]
  simp at hj
  match j,hj with
  | 0,_=>rfl
  | 1,_=>rfl
  | 2,_=>rfl
 ·rintro e w' ⟨v',rfl,h1,_,h3⟩
  refine⟨v',rfl,?_,h3⟩
  have:(atL n x).length=n:=by unfold atL;simp;omega
  unfold aJ
  rw[this]
  exact h1
theorem vG {w:World}{b:Nat}{x:St} (hS:StP w b x) (n:Nat) (hn:n≤3):Calls Tryz.prog 85 #[.slice (some ⟨b,3,none⟩) n 3] w fun e w'=>∃ v',e=.returned v'∧aJ w.heap.size w' v' (aG n x)∧Below w.heap.size w w':=by
 refine (Tryz.slices_Clone_int b 3 n 3 [x.f0,x.f1,x.f2] w (by simp;omega) (by omega) (fun j hj=>?_)).mono ?_
 ·rw[hS.cell]
  simp at hj
  match j,hj with
  | 0,_=>rfl
  | 1,_=>rfl
  | 2,_=>rfl
 ·rintro e w' ⟨v',rfl,h1,_,h3⟩
  refine⟨v',rfl,?_,h3⟩
  have:(aG n x).length=n:=by unfold aG;simp;omega
  unfold aJ
  rw[this]
  exact h1
theorem yr:Tryz.prog.elem 85=3:=by kernel_rfl
theorem yW:Tryz.prog.arrayLen 85=3:=by kernel_rfl
theorem Bh (w:World):(sizeOf 3).run Tryz.prog w=.ok 1 w:=by kernel_rfl
theorem sA (b o n:Nat) (hn:n≤3) (w:World):(Instr.sliceAt 85 (.pointer (some ⟨b,o,none⟩)) none (some (.int .i64 n)) none).run Tryz.prog w=.ok (.slice (some ⟨b,o,none⟩) n 3) w:=by
 rw[run_sliceAt_array_h w 85 ⟨b,o,none⟩ (by rw[yr,yW];exact Am) .i64 n (by omega) (by rw[yW];omega),yr,yW,Bh]
 unfold slicedAt
 simp[Addr.add]
theorem qG (gs:List Gd) (p:Option Addr) (c:Nat) (m:Nat) (x:St) (w:World) (hm:w.cell? ⟨m,0,none⟩=some (.slice p gs.length c)) (hn:gs.length≤3) :
  Calls Tryz.prog 57 #[.pointer (some ⟨m,0,none⟩),.agg #[.int .i64 x.a0,.int .i64 x.a1,.int .i64 x.a2,.int .i64 x.f0,.int .i64 x.f1,.int .i64 x.f2]] w (fun e w'=>∃ v,e=.returned v∧uz w.heap.size gs.length w' v x∧Below w.heap.size w w'):=by
 have hml:m<w.heap.size:=block_lt_of_cell hm
 have k0:StP ((w.alloc (.cells #[.int .i64 x.a0,.int .i64 x.a1,.int .i64 x.a2,.int .i64 x.f0,.int .i64 x.f1,.int .i64 x.f2] 87)).alloc (.cells #[.slice none 0 0,.slice none 0 0] 41)) w.heap.size x:=(StP.new w x).below ((Below.refl _ _).alloc (C6 _) _)
 have k1:((w.alloc (.cells #[.int .i64 x.a0,.int .i64 x.a1,.int .i64 x.a2,.int .i64 x.f0,.int .i64 x.f1,.int .i64 x.f2] 87)).alloc (.cells #[.slice none 0 0,.slice none 0 0] 41)).heap[w.heap.size+1]?=some (.cells #[.slice none 0 0,.slice none 0 0] 41 (0,0)):=by
  have:=heap_alloc_new (w.alloc (.cells #[.int .i64 x.a0,.int .i64 x.a1,.int .i64 x.a2,.int .i64 x.f0,.int .i64 x.f1,.int .i64 x.f2] 87)) (.cells #[.slice none 0 0,.slice none 0 0] 41)
  simpa using this
 have hbl:Below w.heap.size w ((w.alloc (.cells #[.int .i64 x.a0,.int .i64 x.a1,.int .i64 x.a2,.int .i64 x.f0,.int .i64 x.f1,.int .i64 x.f2] 87)).alloc (.cells #[.slice none 0 0,.slice none 0 0] 41)):=((Below.refl _ _).alloc (C6 _) _).alloc (by simp) _
 have hm2:=(hbl.cell (p:=⟨m,0,none⟩) hml).trans hm
 go_enter Tryz.func57,Tryz.ntmps57
 go_upto_region 1 with fail
 generalize (w.alloc (.cells #[.int .i64 x.a0,.int .i64 x.a1,.int .i64 x.a2,.int .i64 x.f0,.int .i64 x.f1,.int .i64 x.f2] 87)).alloc (.cells #[.slice none 0 0,.slice none 0 0] 41)=w1 at *
 go_upto_region 2 with fail
 obtain⟨n,hgn⟩:∃ n,n=gs.length:=⟨_,rfl⟩
 rw[←hgn] at hn hm2 ⊢
 have HGN:=C5 hgn
 clear hgn
 have hbd:Below w1.heap.size w1 w1.drew:=(Below.refl _ _).drew
 have d0:=k0.below hbd
 have d1:=(hbd.block _ (aw k1)).trans k1
 have hb2:=hbl.trans (hbd.mono hbl.size)
 have hsl:=fun o=>sA w.heap.size o n hn
 refine wp_mono (au (Q:=aL _) (fun _=>True) (fun _=>false) (by kernel_rfl) ?_) (fun _ _ _ h=>aV h)
 generalize w1.drew=w2 at *
 refine af (i:=0) (v:=?vv0) rfl (by kernel_rfl) (fun _ _ _ h=>h) rfl ?hy0 ?rest0
 case hy0=>(intro wy;go_simp;try with_reducible rfl)
 try simp only[Act.put,CY,C1,CZ]
 refine af (i:=1) (v:=?vv1) rfl (by kernel_rfl) (fun _ _ _ h=>h) rfl ?hy1 ?rest1
 case hy1=>(intro wy;go_simp;try with_reducible rfl)
 try simp only[Act.put,CY,C1,CZ]
 refine af (i:=2) (v:=?vv2) rfl (by kernel_rfl) (fun _ _ _ h=>h) rfl ?hy2 ?rest2
 case hy2=>(intro wy;go_simp;try with_reducible rfl)
 try simp only[Act.put,CY,C1,CZ]
 refine af (i:=4) (v:=?vv3) rfl (by kernel_rfl) (fun _ _ _ h=>h) rfl ?hy3 ?rest3
 case hy3=>(intro wy;go_simp;try with_reducible rfl)
 try simp only[Act.put,CY,C1,CZ]
 refine af (i:=5) (v:=?vv4) rfl (by kernel_rfl) (fun _ _ _ h=>h) rfl ?hy4 ?rest4
 case hy4=>(intro wy;go_simp;try with_reducible rfl)
 try simp only[Act.put,CY,C1,CZ]
 refine af (i:=6) (v:=?vv5) rfl (by kernel_rfl) (fun _ _ _ h=>h) rfl ?hy5 ?rest5
 case hy5=>(intro wy;go_simp;try with_reducible rfl)
 try simp only[Act.put,CY,C1,CZ]
 refine am (i:=3) rfl (by kernel_rfl) rfl (fun K hK=>?_)
 go_simp
 refine (AL d0 n hn).mono ?_
 rintro e w3 ⟨u1,rfl,hu1,hb3⟩
 obtain⟨p1,c1,rfl⟩:=hu1.slice
 refine hK _ _ (fun _ _=>trivial) ?_
 clear hK K
 try simp only[Act.put,CY,C1,CZ]
 refine am (i:=7) rfl (by kernel_rfl) rfl (fun K hK=>?_)
 go_simp
 refine (vG (d0.below hb3) n hn).mono ?_
 rintro e w4 ⟨u2,rfl,hu2,hb4⟩
 obtain⟨p2,c2,rfl⟩:=hu2.slice
 refine hK _ _ (fun _ _=>trivial) ?_
 clear hK K
 try simp only[Act.put,CY,C1,CZ]
 refine af (i:=8) (v:=?vv8) rfl (by kernel_rfl) (fun _ _ _ h=>h) rfl ?hy8 ?rest8
 case hy8=>(intro wy;go_simp;try with_reducible rfl)
 try simp only[Act.put,CY,C1,CZ]
 have d1':=(hb4.block _ (aw ((hb3.block _ (aw d1)).trans d1))).trans ((hb3.block _ (aw d1)).trans d1)
 have q0:=ac d1' 0
 have q1:=ac d1' 1
 have r0:=frozen_of_row w4 (w.heap.size+1) 0 _ _ d1'
 have r1:=frozen_of_row w4 (w.heap.size+1) 1 _ _ d1'
 refine am (i:=9) rfl (by kernel_rfl) rfl (fun K hK=>?_)
 go_simp
 refine hK _ _ (fun _ _=>trivial) ?_
 clear hK K
 have hz:w.heap.size+1<w2.heap.size:=aw d1
 have e1:=heap_setCell_same w4 (w.heap.size+1) 0 _ _ (Value.slice p1 (atL n x).length c1) d1'
 have e2:=heap_setCell_same _ (w.heap.size+1) 1 _ _ (Value.slice p2 (aG n x).length c2) e1
 have t0:=ac e2 0
 have t1:=ac e2 1
 have hw4:w2.heap.size≤w3.heap.size:=hb3.size
 have hI1:aJ w.heap.size ((w4.setCell ⟨w.heap.size+1,0,none⟩ (.slice p1 (atL n x).length c1)).setCell ⟨w.heap.size+1,1,none⟩ (.slice p2 (aG n x).length c2)) (.slice p1 (atL n x).length c1) (atL n x):=(((hu1.below hb4).setOld _ (by omega)).setOld _ (by omega)).base (by omega)
 have hI2:aJ w.heap.size ((w4.setCell ⟨w.heap.size+1,0,none⟩ (.slice p1 (atL n x).length c1)).setCell ⟨w.heap.size+1,1,none⟩ (.slice p2 (aG n x).length c2)) (.slice p2 (aG n x).length c2) (aG n x):=((hu2.setOld _ (by omega)).setOld _ (by omega)).base (by omega)
 have hB:Below w.heap.size w ((w4.setCell ⟨w.heap.size+1,0,none⟩ (.slice p1 (atL n x).length c1)).setCell ⟨w.heap.size+1,1,none⟩ (.slice p2 (aG n x).length c2)):=(((hb2.trans (hb3.mono hb2.size)).trans (hb4.mono (Df hb2.size hb3.size))).setCell (p:=⟨w.heap.size+1,0,none⟩) (by show w.heap.size≤w.heap.size+1;omega) _).setCell (p:=⟨w.heap.size+1,1,none⟩) (by show w.heap.size≤w.heap.size+1;omega) _
 generalize (w4.setCell ⟨w.heap.size+1,0,none⟩ (.slice p1 (atL n x).length c1)).setCell ⟨w.heap.size+1,1,none⟩ (.slice p2 (aG n x).length c2)=w5 at *
 try simp only[Act.put,C4,C2,C3,CY,C1,CZ]
 refine aA (by kernel_rfl) ?_ _
 simp only[aL]
 go_wp2_with fail
 try simp only[Exit.inBlock,Exit.then]
 have t0':w5.cell? ⟨w.heap.size+1,0,none⟩=some (Value.slice p1 (atL n x).length c1):=t0
 have t1':w5.cell? ⟨w.heap.size+1,1,none⟩=some (Value.slice p2 (aG n x).length c2):=t1
 refine bodyPost_ret (v:=.agg #[.slice p1 (atL n x).length c1,.slice p2 (aG n x).length c2]) (by simp[results,Tryz.results57,go_sem,t0',t1']) rfl ?_
 rw[←HGN.out]
 exact⟨_,rfl,⟨_,_,rfl,hI1,hI2⟩,hB⟩
def kH (gs:List Gd) (l:List Ev):Bool:=l.all (dG (ah gs))
def eB (gs:List Gd) (l:List Ev):Int:=if aX gs=true then (if 256<l.length then 3 else if kH gs l=true then 0 else 42) else 40
def oT (w:World) (gs:List Gd) (p:Option Addr) (c:Nat) (l:List Ev) (e:Ending) (w':World):Prop :=
 Below w.heap.size w w'∧((eB gs l≠0∧e=.returned (.tuple #[.pointer none,.slice none 0 0,.int .i64 (eB gs l)])) ∨
  (eB gs l=0∧∃ (mB:Nat) (vn vb:Value) (mb N s:Nat) (f:Nat×Nat→Option Value) (qv:Value),e=.returned (.tuple #[.pointer (some ⟨mB,0,none⟩),qv,.int .i64 0])∧d_ w' mB gs p c vn vb mb N s f∧dh w.heap.size w' qv (cm (ah gs) St.zero l)))
theorem oT.bad {w w':World}{gs:List Gd}{p:Option Addr}{c:Nat}{l:List Ev}{n:Int} (h:eB gs l=n) (hn:n≠0) (hb:Below w.heap.size w w'):oT w gs p c l (.returned (.tuple #[.pointer none,.slice none 0 0,.int .i64 n])) w' :=
 ⟨hb,Or.inl ⟨by rw[h];exact hn,by rw[h]⟩⟩
theorem dh.base {B B':Nat}{w:World}{v:Value}{q:List St} (h:dh B w v q) (hb:B'≤B):dh B' w v q:=by
 obtain⟨ao,cap,e,h1,h2,h3⟩:=h
 exact⟨ao,cap,e,h1,h2,fun hc=>by obtain⟨g,off,cur,e2,hB,r⟩:=h3 hc;exact⟨g,off,cur,e2,Df hb hB,r⟩⟩
theorem tD {gs:List Gd}{l:List Ev}{i:Nat} (hi:i<l.length) (h:kH gs (l.take i)=true) (h2:dG (ah gs) l[i]=true):kH gs (l.take (i+1))=true:=by
 unfold kH at *
 rw[DH,C7 hi,Es,h]
 simp[h2]
theorem vV {gs:List Gd}{l:List Ev}{i:Nat} (hi:i<l.length) (h2:dG (ah gs) l[i]=false):kH gs l=false:=by
 unfold kH
 rw[Ee]
 exact⟨_,Dt hi,by rw[h2];exact Dl⟩
structure uy (w3 wr:World) (gs:List Gd) (l:List Ev) (i:Nat) (qv:Value):Prop where
 below:Below w3.heap.size w3 wr
 q:dh w3.heap.size wr qv (cm (ah gs) St.zero (l.take i))
 ok:kH gs (l.take i)=true
theorem sK (M:aH) (l:List Ev) (x:St):∃ h:l.length<(cm M x l).length,(cm M x l)[l.length]=mE M x l:=by
 have hl:=eU M l x
 refine⟨by omega,?_⟩
 have:=nY M l x l.length (C6 _)
 rw[C7 (by omega),DG] at this
 exact Option.some.inj this
theorem Bb (gs:List Gd) (p:Option Addr) (c:Nat) (v:Value) (l:List Ev) (w:World) (hP:d8 w p c gs) (hE:qQ w v l) (hlen:(l.length:Int)≤9223372036854775807) :
  Calls Tryz.prog 56 #[.agg #[.slice p gs.length c],v] w (oT w gs p c l):=by
 obtain⟨pe,ce,rfl,hEv⟩:=hE.at_
 have HEV:=C5 hEv
 have HE:=C5 hE
 clear hEv hE
 have hb1:Below w.heap.size w (w.alloc (.cells #[.slice p gs.length c] 24)):=(Below.refl _ _).alloc (C6 _) _
 have s0:=heap_alloc_new w (.cells #[.slice p gs.length c] 24)
 have P1:=hP.below hb1
 have c0:=ac s0 0
 go_enter Tryz.func56,Tryz.ntmps56
 go_upto_region 1 with fail
 generalize w.alloc (.cells #[.slice p gs.length c] 24)=w1 at *
 go_wp2_with fail
 refine P1.check.mono ?_
 rintro e w2 ⟨rfl,hb2⟩
 have P2:=P1.below hb2
 have t0:=(hb2.block _ (aw s0)).trans s0
 have HB2:=hb1.trans (hb2.mono hb1.size)
 clear s0 hb2 hb1 P1 c0
 cases hS:aX gs
 ·simp only[DI,if_false]
  have hpe:eB gs l=40:=by unfold eB;rw[if_neg (by rw[hS];exact Dl)]
  go_wp2_with fail
  all_goals go_ret3
  all_goals exact oT.bad hpe (by decide) HB2
 ·simp only[if_true]
  obtain⟨n,hnl⟩:∃ n,n=l.length:=⟨_,rfl⟩
  rw[←hnl] at hlen ⊢
  have HNL:=C5 hnl
  clear hnl
  obtain⟨hl1,hl3⟩:=a_ hS
  have e0:=ac t0 0
  by_cases hbig:(256:Int)<n
  ·have hd:decide ((256:Int)<n)=true:=by simpa using hbig
   have hpe:eB gs l=3:=by unfold eB;rw[if_pos hS,if_pos (by have:=HNL.out;omega)]
   go_wp2_with fail
   go_ret3
   exact oT.bad hpe (by decide) HB2
  ·have hd:decide ((256:Int)<n)=false:=by simpa using hbig
   have hpe:eB gs l=if kH gs l=true then 0 else 42:=by unfold eB;rw[if_pos hS,if_neg (by have:=HNL.out;omega)]
   have HPE:=C5 hpe
   clear hpe
   go_wp2_with fail
   refine (rW gs p c w2 P2.G hS).mono ?_
   rintro e w3 ⟨mB,vn,vb,mb,Nm,sm,f,rfl,hM,hb3⟩
   have hb4:Below w3.heap.size w3 (w3.alloc (.cells #[.int .i64 0,.int .i64 0,.int .i64 0,.int .i64 0,.int .i64 0,.int .i64 0] 87)):=(Below.refl _ _).alloc (C6 _) _
   have HB4:=(HB2.trans (hb3.mono HB2.size)).trans (hb4.mono (Df HB2.size hb3.size))
   have hM4:=hM.below hb4
   have hQ4:dh w.heap.size (w3.alloc (.cells #[.int .i64 0,.int .i64 0,.int .i64 0,.int .i64 0,.int .i64 0,.int .i64 0] 87)) (.slice (some ⟨w3.heap.size,0,none⟩) 1 1) [St.zero]:=dh.start (StP.new w3 St.zero) (Df HB2.size hb3.size)
   go_wp2_with fail
   have hE3:=HE.out.below ((HB2.trans (hb3.mono HB2.size)).mono (C6 _) |> fun h=>(show Below w.heap.size w w3 from h))
   obtain⟨pe',ce',he',hev3⟩:=hE3.at_
   have hR0:uy w3 (w3.alloc (.cells #[.int .i64 0,.int .i64 0,.int .i64 0,.int .i64 0,.int .i64 0,.int .i64 0] 87)) gs l 0 (.slice (some ⟨w3.heap.size,0,none⟩) 1 1):=⟨hb4,dh.start (StP.new w3 St.zero) (C6 _),by simp[kH]⟩
   have hB3:=HB2.trans (hb3.mono HB2.size)
   have HEV3:=C5 hev3
   have hz3:w.heap.size<w3.heap.size:=C8 (aw t0) hb3.size
   have hn256:n≤256:=by omega
   clear hev3 hQ4 hM4 HB4 hb4 HEV hd e0 t0 P2 hb3 hbig HB2
   go_loopw [26,9] (fun s26 s9 wr=>∃ i:Nat,s26=.int .i64 i∧i≤n∧uy w3 wr gs l i s9) (fun s26 _ _=>n-(intOf s26).toNat)
   case atStart=>exact⟨0,rfl,by omega,hR0⟩
   case round =>
    clear hR0
    obtain⟨i,rfl,hi,hR⟩:=hrel
    by_cases hin:i<n
    ·have hil:i<l.length:=by have:=HNL.out;omega
     obtain⟨b,o,hpe,hbw,hcs⟩:=HEV3.out (by omega)
     have hpp:pe=some ⟨b,o,none⟩:=by
      have:=he'
      cases this
      exact hpe
     subst hpp
     obtain⟨ev,hev⟩:∃ ev,ev=l[i]:=⟨_,rfl⟩
     obtain⟨e0,e1⟩:=hcs i hil
     rw[←hev] at e0 e1
     have HV:=C5 hev
     clear hev hcs hpe
     obtain⟨eg,ek⟩:=ev
     simp only at e0 e1
     have x0:=(hR.below.cell (p:=⟨b,_,none⟩) hbw).trans e0
     have x1:=(hR.below.cell (p:=⟨b,_,none⟩) hbw).trans e1
     have hbA:Below w3.heap.size w3 (wr.alloc (.cells #[.int .i64 eg,.int .i64 ek] 53)):=hR.below.alloc hR.below.size _
     have y0:=heap_alloc_new wr (.cells #[.int .i64 eg,.int .i64 ek] 53)
     have hQA:=hR.q.below ((Below.refl wr.heap.size wr).alloc (C6 _) (.cells #[.int .i64 eg,.int .i64 ek] 53))
     have HOK:=C5 hR.ok
     clear e0 e1 he'
     go_upto_region 11 with fail
     generalize wr.alloc (.cells #[.int .i64 eg,.int .i64 ek] 53)=wa at *
     generalize wr.heap.size=be at *
     have z0:=ac y0 0
     have z1:=ac y0 1
     have hMA:=hM.below hbA
     clear x0 x1 hR
     go_wp2_with fail
     refine (rp gs p c mB ⟨eg,ek⟩ wa hMA.m0 hl3).mono ?_
     rintro e wb ⟨rfl,hbB⟩
     have HBB:=hbA.trans (hbB.mono hbA.size)
     cases hok:dG (ah gs) ⟨eg,ek⟩
     ·have hpe:eB gs l=42:=by
       rw[HPE.out,if_neg]
       rw[vV hil (by rw[←HV.out];exact hok)]
       exact Dl
      go_wp2_with fail
      go_ret3
      exact oT.bad hpe (by decide) (hB3.trans (HBB.mono hB3.size))
     ·have hoks:=gG.1 hok
      obtain⟨gn,rfl⟩:∃ gn:Nat,eg=gn:=⟨eg.toNat,by have:=hoks.1;simp only at this;omega⟩
      have hgn:gn<gs.length:=by have:=hoks.2.1;simp only[ah] at this;omega
      have hk0:=hoks.2.2.1
      have hk2:=hoks.2.2.2
      simp only at hk0 hk2
      have HST:=C5 (tD hil HOK.out (by rw[←HV.out];exact hok))
      have hQB:=hQA.below hbB
      have hMB:=hM.below HBB
      have y1:=(hbB.block _ (aw y0)).trans y0
      have z0:=ac y1 0
      have z1:=ac y1 1
      clear hok hoks y0 hMA hbA hbB
      obtain⟨hsl,hse⟩:=sK (ah gs) (l.take i) St.zero
      have hqi:=hQB.get hsl
      rw[hse] at hqi
      have hln:(cm (ah gs) St.zero (l.take i)).length=i+1:=by rw[eU,Dy];omega
      have hli:(l.take i).length=i:=by rw[Dy];omega
      have hxat:(ah gs).At (mE (ah gs) St.zero (l.take i)):=zN (bD hS) _ _ (aH.At.zero (bD hS)) (fun u hu=>Dq.1 HOK.out u hu)
      obtain⟨x,hx⟩:∃ x,x=mE (ah gs) St.zero (l.take i):=⟨_,rfl⟩
      rw[←hx] at hqi hxat
      rw[hln,hli] at hqi
      obtain⟨g,off,cap,rfl,hgl,q0,q1,q2,q3,q4,q5⟩:=hqi
      have HX:=C5 hx
      have HLN:=C5 hln
      clear hx hln hli hse hsl z0 z1
      have z0:=ac y1 0
      have z1:=ac y1 1
      go_upto_region 13 with fail
      have hbd:Below wb.heap.size wb wb.drew:=(Below.refl _ _).drew
      have a0:=(hbd.cell (p:=⟨g,_,none⟩) hgl).trans q0
      have a1:=(hbd.cell (p:=⟨g,_,none⟩) hgl).trans q1
      have a2:=(hbd.cell (p:=⟨g,_,none⟩) hgl).trans q2
      have a3:=(hbd.cell (p:=⟨g,_,none⟩) hgl).trans q3
      have a4:=(hbd.cell (p:=⟨g,_,none⟩) hgl).trans q4
      have a5:=(hbd.cell (p:=⟨g,_,none⟩) hgl).trans q5
      have y2:=(hbd.block _ (aw y1)).trans y1
      have b0:=ac y2 0
      have b1:=ac y2 1
      have hQD:=hQB.below hbd
      have hMD:=hMB.below hbd
      have HBD:=HBB.trans (hbd.mono HBB.size)
      have hoffc:i+1≤257:=by omega
      have hil1:((i:Nat):Int)<(i:Int)+1:=by omega
      have hwi:IntKind.i64.wrap ((i:Nat):Int)=i:=by rw[IntKind.wrap_i64];omega
      clear q0 q1 q2 q3 q4 q5 z0 z1 y1 hQB hMB HBB hQA hgl
      refine wp_mono (au (Q:=aL _) (fun _=>True) (fun _=>false) (by kernel_rfl) ?_) (fun _ _ _ h=>aV h)
      generalize wb.drew=wd at *
      refine af (i:=0) (v:=?vv0) rfl (by kernel_rfl) (fun _ _ _ h=>h) rfl ?hy0 ?rest0
      case hy0=>(intro wy;go_simp;try with_reducible rfl)
      try simp only[Act.put,CY,C1,CZ]
      refine af (i:=1) (v:=?vv1) rfl (by kernel_rfl) (fun _ _ _ h=>h) rfl ?hy1 ?rest1
      case hy1=>(intro wy;go_simp;try with_reducible rfl)
      try simp only[Act.put,CY,C1,CZ]
      refine af (i:=2) (v:=?vv2) rfl (by kernel_rfl) (fun _ _ _ h=>h) rfl ?hy2 ?rest2
      case hy2=>(intro wy;go_simp;try with_reducible rfl)
      try simp only[Act.put,CY,C1,CZ]
      refine af (i:=3) (v:=?vv3) rfl (by kernel_rfl) (fun _ _ _ h=>h) rfl ?hy3 ?rest3
      case hy3=>(intro wy;go_simp;try with_reducible rfl)
      try simp only[Act.put,CY,C1,CZ]
      refine af (i:=4) (v:=?vv4) rfl (by kernel_rfl) (fun _ _ _ h=>h) rfl ?hy4 ?rest4
      case hy4=>(intro wy;go_simp;try with_reducible rfl)
      try simp only[Act.put,CY,C1,CZ]
      refine af (i:=5) (v:=?vv5) rfl (by kernel_rfl) (fun _ _ _ h=>h) rfl ?hy5 ?rest5
      case hy5=>(intro wy;go_simp;(try simp only[hwi]);try with_reducible rfl)
      try simp only[Act.put,CY,C1,CZ]
      refine af (i:=6) (v:=?vv6) rfl (by kernel_rfl) (fun _ _ _ h=>h) rfl ?hy6 ?rest6
      case hy6=>(intro wy;go_simp;(try rw[if_pos hil1]);try with_reducible rfl)
      try simp only[Act.put,CY,C1,CZ]
      refine jL (i:=7) (i':=8) rfl rfl (by kernel_rfl) rfl rfl (fun K hK=>?_) (fun K hK=>?_)
      ·go_simp
       refine hK _ _ (fun _ _=>trivial) ?_
       clear hK K
       try simp only[Act.put,CY,C1,CZ]
       refine am (i:=8) rfl (by kernel_rfl) rfl (fun K hK=>?_)
       go_simp
       refine hK _ _ (fun _ _=>trivial) ?_
       clear hK K
       try simp only[Act.put,CY,C1,CZ]
       clear a0 a1 a2 a3 a4 a5 b0 b1
       refine am (i:=9) rfl (by kernel_rfl) rfl (fun K hK=>?_)
       go_simp
       refine (uT gs p c vn vb mb Nm sm f wd mB x gn ek hMD (js hS) hS hxat hgn hk0 hk2).mono ?_
       rintro e we ⟨y,rfl,HY,hbe⟩
       refine hK _ _ (fun _ _=>trivial) ?_
       clear hK K
       try simp only[Act.put,CY,C1,CZ]
       refine am (i:=10) rfl (by kernel_rfl) rfl (fun K hK=>?_)
       go_simp
       refine hK _ _ (fun _ _=>trivial) ?_
       clear hK K
       try simp only[Act.put,CY,C1,CZ]
       have hbf:Below we.heap.size we (we.alloc (.cells #[.int .i64 y.a0,.int .i64 y.a1,.int .i64 y.a2,.int .i64 y.f0,.int .i64 y.f1,.int .i64 y.f2] 87)):=(Below.refl _ _).alloc (C6 _) _
       have HBF:=(HBD.trans (hbe.mono HBD.size)).trans (hbf.mono (Df HBD.size hbe.size))
       obtain⟨qv',wg,hrun,hQg,hgg,_⟩:=lJ (we.alloc (.cells #[.int .i64 y.a0,.int .i64 y.a1,.int .i64 y.a2,.int .i64 y.f0,.int .i64 y.f1,.int .i64 y.f2] 87)) 103 ((hQD.below hbe).below hbf) HBF.size (by rw[HLN.out];omega) (StP.new we y)
       obtain⟨gq,cq,eq1,eq2,_⟩:=((hQD.below hbe).below hbf).block (by intro e;have:=HLN.out;rw[e] at this;simp at this)
       have HBG:Below w3.heap.size w3 wg:=HBF.grown hgg HBF.size (fun k hk=>by rw[eq1] at hk;cases hk;exact eq2)
       have hRg:uy w3 wg gs l (i+1) qv':=by
        refine⟨HBG,?_,HST.out⟩
        rw[DH,C7 hil]
        show dh _ _ _ (cm _ _ (l.take i++[l[i]]))
        rw[ja,←HX.out,←HV.out,HY.out]
        exact hQg
       refine am (i:=11) rfl (by kernel_rfl) rfl (fun K hK=>?_)
       refine iz _ _ _ rfl rfl rfl hrun ?_
       refine hK _ _ (fun _ _=>trivial) ?_
       clear hK K hrun hQg hgg HBF hbf eq1 eq2 HBG hQD hbe
       try simp only[Act.put,CY,C1,CZ]
       refine af (i:=12) (v:=?vv12) rfl (by kernel_rfl) (fun _ _ _ h=>h) rfl ?hy12 ?rest12
       case hy12=>(intro wy;go_simp;try with_reducible rfl)
       try simp only[Act.put,CY,C1,CZ]
       try simp only[Act.put,C4,C2,C3,CY,C1,CZ]
       refine aA (by kernel_rfl) ?_ _
       simp only[aL]
       go_wp2_with fail
       go_roundw
       case rel=>exact⟨i+1,by go_num,by omega,hRg⟩
       case measure=>simp[intOf];omega
      ·go_simp
       refine hK _ _ (fun _ _=>trivial) ?_
       clear hK K
       try simp only[Act.put,CY,C1,CZ]
       refine am (i:=7) rfl (by kernel_rfl) rfl (fun K hK=>?_)
       go_simp
       refine hK _ _ (fun _ _=>trivial) ?_
       clear hK K
       try simp only[Act.put,CY,C1,CZ]
       clear a0 a1 a2 a3 a4 a5 b0 b1
       refine am (i:=9) rfl (by kernel_rfl) rfl (fun K hK=>?_)
       go_simp
       refine (uT gs p c vn vb mb Nm sm f wd mB x gn ek hMD (js hS) hS hxat hgn hk0 hk2).mono ?_
       rintro e we ⟨y,rfl,HY,hbe⟩
       refine hK _ _ (fun _ _=>trivial) ?_
       clear hK K
       try simp only[Act.put,CY,C1,CZ]
       refine am (i:=10) rfl (by kernel_rfl) rfl (fun K hK=>?_)
       go_simp
       refine hK _ _ (fun _ _=>trivial) ?_
       clear hK K
       try simp only[Act.put,CY,C1,CZ]
       have hbf:Below we.heap.size we (we.alloc (.cells #[.int .i64 y.a0,.int .i64 y.a1,.int .i64 y.a2,.int .i64 y.f0,.int .i64 y.f1,.int .i64 y.f2] 87)):=(Below.refl _ _).alloc (C6 _) _
       have HBF:=(HBD.trans (hbe.mono HBD.size)).trans (hbf.mono (Df HBD.size hbe.size))
       obtain⟨qv',wg,hrun,hQg,hgg,_⟩:=lJ (we.alloc (.cells #[.int .i64 y.a0,.int .i64 y.a1,.int .i64 y.a2,.int .i64 y.f0,.int .i64 y.f1,.int .i64 y.f2] 87)) 103 ((hQD.below hbe).below hbf) HBF.size (by rw[HLN.out];omega) (StP.new we y)
       obtain⟨gq,cq,eq1,eq2,_⟩:=((hQD.below hbe).below hbf).block (by intro e;have:=HLN.out;rw[e] at this;simp at this)
       have HBG:Below w3.heap.size w3 wg:=HBF.grown hgg HBF.size (fun k hk=>by rw[eq1] at hk;cases hk;exact eq2)
       have hRg:uy w3 wg gs l (i+1) qv':=by
        refine⟨HBG,?_,HST.out⟩
        rw[DH,C7 hil]
        show dh _ _ _ (cm _ _ (l.take i++[l[i]]))
        rw[ja,←HX.out,←HV.out,HY.out]
        exact hQg
       refine am (i:=11) rfl (by kernel_rfl) rfl (fun K hK=>?_)
       refine iz _ _ _ rfl rfl rfl hrun ?_
       refine hK _ _ (fun _ _=>trivial) ?_
       clear hK K hrun hQg hgg HBF hbf eq1 eq2 HBG hQD hbe
       try simp only[Act.put,CY,C1,CZ]
       refine af (i:=12) (v:=?vv13) rfl (by kernel_rfl) (fun _ _ _ h=>h) rfl ?hy13 ?rest13
       case hy13=>(intro wy;go_simp;try with_reducible rfl)
       try simp only[Act.put,CY,C1,CZ]
       try simp only[Act.put,C4,C2,C3,CY,C1,CZ]
       refine aA (by kernel_rfl) ?_ _
       simp only[aL]
       go_wp2_with fail
       go_roundw
       case rel=>exact⟨i+1,by go_num,by omega,hRg⟩
       case measure=>simp[intOf];omega
    ·have hie:i=n:=by omega
     subst hie
     clear hin hi
     have hpe:eB gs l=0:=by
      rw[HPE.out,if_pos]
      have:=hR.ok
      rw[Db (by have:=HNL.out;omega)] at this
      exact this
     have hq:=hR.q
     rw[Db (by have:=HNL.out;omega)] at hq
     have hMr:=hM.below hR.below
     go_wp2_with fail
     go_ret3
     exact⟨hB3.trans (hR.below.mono hB3.size),Or.inr ⟨hpe,mB,vn,vb,mb,Nm,sm,f,_,rfl,hMr,hq.base hB3.size⟩⟩
end Go.Proofs.YtnkgbocdpngldaaGreatDoor
