/- Lemmas of this claim. -/
import Derived.BigQuiet
import Derived.Laws.EntriesVeiled
import Derived.Laws.StructEq
import Derived.Test.YtnkgbocdpngldaaGreatDoorXKeys
import Derived.Test.YtnkgbocdpngldaaGreatDoorXSea1
import Derived.Test.YtnkgbocdpngldaaGreatDoorXCnt
import Derived.Test.YtnkgbocdpngldaaGreatDoorXWor2
set_option linter.all false
set_option maxRecDepth 100000
set_option maxHeartbeats 8000000
namespace Go.Proofs.YtnkgbocdpngldaaGreatDoor
open Go.RowKit Dc Dg
def tR (a b:Nat×Int) (x:St):Bool:=decide (x.a a.1=a.2)&&decide (x.a b.1=b.2)
theorem metN (a b:Nat×Int) (ha:a.1<3) (hb:b.1<3) (ka kb:Nat) (w:World)
  (a0:w.cell? ⟨ka,0,none⟩=some (.int .i64 a.1)) (a1:w.cell? ⟨ka,1,none⟩=some (.int .i64 a.2)) (b0:w.cell? ⟨kb,0,none⟩=some (.int .i64 b.1)) (b1:w.cell? ⟨kb,1,none⟩=some (.int .i64 b.2)) (y:St) :
  Calls Tryz.prog 50 #[.agg #[.int .i64 y.a0,.int .i64 y.a1,.int .i64 y.a2,.int .i64 y.f0,.int .i64 y.f1,.int .i64 y.f2],.pointer (some ⟨ka,0,none⟩),.pointer (some ⟨kb,0,none⟩)] w (fun e w'=>e=.returned (.bool (tR a b y))∧Below w.heap.size w w'):=by
 obtain⟨ga,ra⟩:=a
 obtain⟨gb,rb⟩:=b
 simp only at ha hb a0 a1 b0 b1
 have la:=block_lt_of_cell a0
 have lb:=block_lt_of_cell b0
 have hS:=StP.new w y
 have sa:=hS.a ha
 have sb:=hS.a hb
 have da:((ga:Nat):Int)<3:=by omega
 have db:((gb:Nat):Int)<3:=by omega
 have ca0:=jl a0 (.cells #[.int .i64 y.a0,.int .i64 y.a1,.int .i64 y.a2,.int .i64 y.f0,.int .i64 y.f1,.int .i64 y.f2] 87)
 have ca1:=jl a1 (.cells #[.int .i64 y.a0,.int .i64 y.a1,.int .i64 y.a2,.int .i64 y.f0,.int .i64 y.f1,.int .i64 y.f2] 87)
 have cb0:=jl b0 (.cells #[.int .i64 y.a0,.int .i64 y.a1,.int .i64 y.a2,.int .i64 y.f0,.int .i64 y.f1,.int .i64 y.f2] 87)
 have cb1:=jl b1 (.cells #[.int .i64 y.a0,.int .i64 y.a1,.int .i64 y.a2,.int .i64 y.f0,.int .i64 y.f1,.int .i64 y.f2] 87)
 have hbl:Below w.heap.size w (w.alloc (.cells #[.int .i64 y.a0,.int .i64 y.a1,.int .i64 y.a2,.int .i64 y.f0,.int .i64 y.f1,.int .i64 y.f2] 87)):=(Below.refl _ _).alloc (C6 _) _
 have hz:(w.alloc (.cells #[.int .i64 y.a0,.int .i64 y.a1,.int .i64 y.a2,.int .i64 y.f0,.int .i64 y.f1,.int .i64 y.f2] 87)).heap.size=w.heap.size+1:=by simp
 clear hS a0 a1 b0 b1 la lb
 go_enter Tryz.func50,Tryz.ntmps50
 go_upto_region 1 with fail
 generalize w.alloc (.cells #[.int .i64 y.a0,.int .i64 y.a1,.int .i64 y.a2,.int .i64 y.f0,.int .i64 y.f1,.int .i64 y.f2] 87)=w1 at *
 by_cases h:y.a ga=ra
 ·have hd:(y.a ga == ra)=true:=by simp[h]
  go_quiet (fail)
  go_wp2_with fail
  go_ret
  exact⟨by simp[tR,h];rfl,below_drewN hbl _⟩
 ·have hd:(y.a ga == ra)=false:=by simp[h]
  go_quiet (fail)
  go_wp2_with fail
  go_ret
  exact⟨by simp[tR,h],below_drewN hbl _⟩
def eS (gs:List Gd) (a:Int×Int):Bool:=(decide (0≤a.1)&&decide (a.1≤(gs.length:Int)-1))&&(decide (0≤a.2)&&decide (a.2≤((ag gs a.1.toNat).length:Int)-1))
def ix (gs:List Gd) (a b:Int×Int):List Ev×Int :=
 if aX gs=true then
  if (eS gs a&&eS gs b)=true∧¬ a.1=b.1 then
   match cX (ah gs) St.zero (fun _=>true) (tR (a.1.toNat,a.2) (b.1.toNat,b.2)) with
   | (some y,R)=>(oM R y,0)
   | (none,_)=>([],4)
  else ([],2)
 else ([],40)
def lR (w:World) (r:List Ev×Int) (e:Ending) (w':World):Prop:=∃ v,e=.returned (.tuple #[v,.int .i64 r.2])∧EvR w.heap.size w' v r.1∧Below w.heap.size w w'
theorem lR.none (w w':World) {r:List Ev×Int}{n:Int} (h:r=([],n)) (hb:Below w.heap.size w w'):lR w r (.returned (.tuple #[.slice none 0 0,.int .i64 n])) w':=by
 subst h
 exact⟨_,rfl,World.ownsRow_nil _ _ _ _,hb⟩
theorem fX {n low high:Int} (h1:low≤n) (h2:n≤high) (w:World):Calls Tryz.prog 49 #[.int .i64 n,.int .i64 low,.int .i64 high] w fun e w'=>e=.returned (.bool true)∧w'=w:=by
 refine (qL n low high w).mono ?_
 rintro e w' ⟨rfl,rfl⟩
 exact⟨by simp[h1,h2],rfl⟩
theorem fW {n low high:Int} (h:¬ (low≤n∧n≤high)) (w:World):Calls Tryz.prog 49 #[.int .i64 n,.int .i64 low,.int .i64 high] w fun e w'=>e=.returned (.bool false)∧w'=w:=by
 refine (qL n low high w).mono ?_
 rintro e w' ⟨rfl,rfl⟩
 exact⟨by congr 2;rw[DU];simpa using h,rfl⟩
theorem bS {P:Program}{f:FuncId}{args:Array Value}{w:World}{n:Nat}{v:Value}
  (h:Calls P f args (w.drewN n) fun e w'=>e=.returned v∧w'=w.drewN n):Calls P f args (w.drewN n) fun e w''=>e=.returned v∧∃ k,w''=w.drewN k :=
 h.mono fun _ _ ⟨he,hm⟩=>⟨he,n,hm⟩
def zr (gs:List Gd) (a b:Int×Int) (i:Nat):Prop:=(1≤i→eS gs a=true)∧(2≤i→eS gs b=true)
theorem CQ (gs:List Gd) (p:Option Addr) (c:Nat) (a b:Int×Int) (w:World) (hP:d8 w p c gs) :
  Calls Tryz.prog 13 #[.agg #[.slice p gs.length c],.agg #[.int .i64 a.1,.int .i64 a.2],.agg #[.int .i64 b.1,.int .i64 b.2]] w (lR w (ix gs a b)):=by
 obtain⟨a1,a2⟩:=a
 obtain⟨b1,b2⟩:=b
 simp only
 have hb1:Below w.heap.size w (((w.alloc (.cells #[.slice p gs.length c] 24)).alloc (.cells #[.int .i64 a1,.int .i64 a2] 25)).alloc (.cells #[.int .i64 b1,.int .i64 b2] 25)):=(((Below.refl _ _).alloc (C6 _) _).alloc (by simp) _).alloc (by simp;omega) _
 have s0:(((w.alloc (.cells #[.slice p gs.length c] 24)).alloc (.cells #[.int .i64 a1,.int .i64 a2] 25)).alloc (.cells #[.int .i64 b1,.int .i64 b2] 25)).heap[w.heap.size]?=some (.cells #[.slice p gs.length c] 24 (0,0)):=(heap_alloc_old _ _ (by simp;omega)).trans ((heap_alloc_old _ _ (by simp)).trans (heap_alloc_new _ _))
 have s1:(((w.alloc (.cells #[.slice p gs.length c] 24)).alloc (.cells #[.int .i64 a1,.int .i64 a2] 25)).alloc (.cells #[.int .i64 b1,.int .i64 b2] 25)).heap[w.heap.size+1]?=some (.cells #[.int .i64 a1,.int .i64 a2] 25 (0,0)):=by
  refine (heap_alloc_old _ _ (by simp)).trans ?_
  have:=heap_alloc_new (w.alloc (.cells #[.slice p gs.length c] 24)) (.cells #[.int .i64 a1,.int .i64 a2] 25)
  simpa using this
 have s2:(((w.alloc (.cells #[.slice p gs.length c] 24)).alloc (.cells #[.int .i64 a1,.int .i64 a2] 25)).alloc (.cells #[.int .i64 b1,.int .i64 b2] 25)).heap[w.heap.size+1+1]?=some (.cells #[.int .i64 b1,.int .i64 b2] 25 (0,0)):=by
  have:=heap_alloc_new ((w.alloc (.cells #[.slice p gs.length c] 24)).alloc (.cells #[.int .i64 a1,.int .i64 a2] 25)) (.cells #[.int .i64 b1,.int .i64 b2] 25)
  simpa using this
 have P1:=hP.below hb1
 have hMG:ix gs (a1,a2) (b1,b2)=ix gs (a1,a2) (b1,b2):=rfl
 have c0:=ac s0 0
 go_enter Tryz.func13,Tryz.ntmps13
 go_upto_region 1 with fail
 generalize ((w.alloc (.cells #[.slice p gs.length c] 24)).alloc (.cells #[.int .i64 a1,.int .i64 a2] 25)).alloc (.cells #[.int .i64 b1,.int .i64 b2] 25)=w1 at *
 go_wp2_with fail
 refine P1.check.mono ?_
 rintro e w2 ⟨rfl,hb2⟩
 have P2:=P1.below hb2
 have t0:=(hb2.block _ (aw s0)).trans s0
 have t1:=(hb2.block _ (aw s1)).trans s1
 have t2:=(hb2.block _ (aw s2)).trans s2
 have HB2:=hb1.trans (hb2.mono hb1.size)
 clear s0 s1 s2 hb2 hb1 P1 c0
 cases hS:aX gs
 ·simp only[DI,if_false]
  go_wp2_with fail
  all_goals go_ret2
  all_goals exact lR.none _ _ (by unfold ix;rw[if_neg (by rw[hS];exact Dl)]) HB2
 ·simp only[if_true]
  have e0:=ac t0 0
  have e1:=ac t1 0
  have e2:=ac t1 1
  have e3:=ac t2 0
  have e4:=ac t2 1
  obtain⟨hl1,hl3⟩:=a_ hS
  go_wp2_with fail
  have HMG:=C5 hMG
  clear hMG
  have Z:w.heap.size+1+1<w2.heap.size:=aw t2
  go_loopw [22] (fun s22 wr=>∃ i:Nat,s22=.int .i64 i∧i≤2∧Below w2.heap.size w2 wr∧zr gs (a1,a2) (b1,b2) i) (fun s22 _=>2-(intOf s22).toNat)
  case atStart=>exact⟨0,rfl,by omega,Below.refl _ _,fun h=>by omega,fun h=>by omega⟩
  case round =>
   obtain⟨i,rfl,hi,hbr,hok⟩:=hrel
   have HOK:=C5 hok
   clear hok
   by_cases hi2:i<2
   ·obtain⟨p1,p2,hidx,hpi⟩:∃ p1 p2:Int,(∀ W,(Instr.index 35 (.agg #[.int .i64 a1,.int .i64 a2,.int .i64 b1,.int .i64 b2]) (.int .i64 i)).run Tryz.prog W=.ok (.agg #[.int .i64 p1,.int .i64 p2]) W)∧Hid ((i=0→(a1,a2)=(p1,p2))∧(i=1→(b1,b2)=(p1,p2))):=by
     match i,hi2 with
     | 0,_=>exact⟨a1,a2,fun _=>by kernel_rfl,fun _=>rfl,fun h=>by omega⟩
     | 1,_=>exact⟨b1,b2,fun _=>by kernel_rfl,fun h=>by omega,fun _=>rfl⟩
    have hstep:eS gs (p1,p2)=true→zr gs (a1,a2) (b1,b2) (i+1):=fun h=>by
     refine⟨fun _=>?_,fun h2=>?_⟩
     ·by_cases h0:i=0
      ·rw[hpi.out.1 h0];exact h
      ·exact HOK.out.1 (by omega)
     ·rw[hpi.out.2 (by omega)];exact h
    have hbad:eS gs (p1,p2)=false→ix gs (a1,a2) (b1,b2)=([],2):=fun h=>by
     unfold ix
     rw[if_pos hS,if_neg]
     rintro⟨h1,_⟩
     simp only[Da] at h1
     by_cases h0:i=0
     ·have:=hpi.out.1 h0;rw[←this] at h;rw[h] at h1;exact absurd h1.1 (by decide)
     ·have:=hpi.out.2 (by omega);rw[←this] at h;rw[h] at h1;exact absurd h1.2 (by decide)
    have HST:=C5 hstep
    have HBD:=C5 hbad
    clear hstep hbad
    have hbx:Below w2.heap.size w2 (wr.alloc (.cells #[.int .i64 p1,.int .i64 p2] 25)):=hbr.alloc hbr.size _
    have x0:=an wr #[.int .i64 p1,.int .i64 p2] 25 0 _ rfl
    have x1:=an wr #[.int .i64 p1,.int .i64 p2] 25 1 _ rfl
    have hxl:wr.heap.size<(wr.alloc (.cells #[.int .i64 p1,.int .i64 p2] 25)).heap.size:=by simp
    go_upto_region 7 with fail
    generalize wr.alloc (.cells #[.int .i64 p1,.int .i64 p2] 25)=wx at *
    have f0:=(hbx.cell (p:=⟨w.heap.size,0,none⟩) (by show w.heap.size<_;omega)).trans e0
    have hPx:=P2.below hbx
    clear e0 e1 e2 e3 e4 hidx
    by_cases hw1:0≤p1∧p1≤(gs.length:Int)-1
    ·obtain⟨j,rfl⟩:∃ j:Nat,p1=(j:Int):=⟨p1.toNat,by omega⟩
     have hj:j<gs.length:=by omega
     obtain⟨bg,og,rfl,hbg,hcg⟩:=hPx.G.at_ (by omega)
     obtain⟨q1,c1,g1,g2,hR⟩:=hcg j hj
     have hra:ag gs j=gs[j].rungs:=by unfold ag;rw[C7 hj]
     rw[←hra] at g2
     have hT1:=C5 (fX hw1.1 hw1.2)
     have HJ:=C5 hj
     have HW1:=C5 hw1
     have hrl:(ag gs j).length≤1000000000000000:=by rw[hra];exact hPx.F.len _ (Dt hj)
     clear hcg hra hR hw1
     by_cases hw2:0≤p2∧p2≤((ag gs j).length:Int)-1
     ·have hT2:=C5 (fX hw2.1 hw2.2)
      have HW2:=C5 hw2
      clear hw2
      go_quiet ((go_at_call 49;first | with_reducible exact bS (hT1.out _) | with_reducible exact bS (hT2.out _)))
      have hbq:=below_drewN hbx nq
      go_wp2_with fail
      go_roundw
      case rel=>exact⟨i+1,by go_num,by omega,hbq,HST.out (by unfold eS;simp[HW1.out,HW2.out])⟩
      case measure=>simp[intOf];omega
     ·have hT2:=C5 (fW hw2)
      have HW2:=C5 hw2
      clear hw2
      go_quiet ((go_at_call 49;first | with_reducible exact bS (hT1.out _) | with_reducible exact bS (hT2.out _)))
      have hbq:=below_drewN hbx nq
      go_wp2_with fail
      go_ret2
      exact lR.none _ _ (HBD.out (by unfold eS;have:=HW2.out;simp;omega)) (HB2.trans (hbq.mono HB2.size))
    ·have hT1:=C5 (fW hw1)
     have HW1:=C5 hw1
     clear hw1
     go_quiet ((go_at_call 49;with_reducible exact bS (hT1.out _)))
     have hbq:=below_drewN hbx nq
     go_wp2_with fail
     go_ret2
     exact lR.none _ _ (HBD.out (by unfold eS;have:=HW1.out;simp;omega)) (HB2.trans (hbq.mono HB2.size))
   ·have hie:i=2:=by omega
    subst hie
    have hoa:=HOK.out.1 (by omega)
    have hob:=HOK.out.2 (by omega)
    have hA:=hoa
    have hB:=hob
    unfold eS at hA hB
    simp only[Da,decide_eq_true_eq] at hA hB
    obtain⟨ga,rfl⟩:∃ ga:Nat,a1=ga:=⟨a1.toNat,by omega⟩
    obtain⟨gb,rfl⟩:∃ gb:Nat,b1=gb:=⟨b1.toNat,by omega⟩
    have hga:ga<3:=by omega
    have hgb:gb<3:=by omega
    have k0:=(hbr.block _ (aw t0)).trans t0
    have k1:=(hbr.block _ (aw t1)).trans t1
    have k2:=(hbr.block _ (aw t2)).trans t2
    have c0:=ac k0 0
    have d0:=ac k1 0
    have d1:=ac k2 0
    have HBR:=HB2.trans (hbr.mono HB2.size)
    have hPr:=P2.below hbr
    clear e0 e1 e2 e3 e4 hA hB t0 t1 t2 hbr
    by_cases hab:(ga:Int)=gb
    ·have hd:(((ga:Nat):Int) == ((gb:Nat):Int))=true:=by simp;omega
     have hmg:ix gs (ga,a2) (gb,b2)=([],2):=by
      unfold ix
      rw[if_pos hS,if_neg (fun h=>h.2 hab)]
     clear hab
     go_wp2_with fail
     go_ret2
     exact lR.none _ _ hmg HBR
    ·have hd:(((ga:Nat):Int) == ((gb:Nat):Int))=false:=by simp;omega
     have hmg:ix gs (ga,a2) (gb,b2)=(match cX (ah gs) St.zero (fun _=>true) (tR (ga,a2) (gb,b2)) with | (some y,R)=>(oM R y,0) | (none,_)=>([],4)):=by
      unfold ix
      rw[if_pos hS,if_pos ⟨by rw[hoa,hob];rfl,hab⟩]
      simp only[Dr]
     have HM:=C5 hmg
     clear hab hmg hoa hob
     go_wp2_with fail
     refine (rW gs p c wr hPr.G hS).mono ?_
     rintro e w3 ⟨mB,vn,vb,mb,Nm,sm,f,rfl,hMP,hb3⟩
     have k1':=(hb3.block _ (aw k1)).trans k1
     have k2':=(hb3.block _ (aw k2)).trans k2
     go_wp2_with fail
     refine (uY gs p c vn vb mb Nm sm f w3 mB St.zero hMP (js hS) hS (aH.At.zero (bD hS)) 45 50 #[] #[.pointer (some ⟨w.heap.size+1,0,none⟩),.pointer (some ⟨w.heap.size+1+1,0,none⟩)] (fun _=>true) (tR (ga,a2) (gb,b2)) (gL Tryz.func45 (by kernel_rfl) (by decide)) (gL Tryz.func50 (by kernel_rfl) (by decide))
      (fun w' _ v _=>oW v w') (fun w' hb' y _=>metN (ga,a2) (gb,b2) hga hgb (w.heap.size+1) (w.heap.size+1+1) w' (ac ((hb'.block _ (aw k1')).trans k1') 0) (ac ((hb'.block _ (aw k1')).trans k1') 1) (ac ((hb'.block _ (aw k2')).trans k2') 0) (ac ((hb'.block _ (aw k2')).trans k2') 1) y)).mono ?_
     rintro e w4 ⟨hb4,v4,mt,N,s,rfl,hT,hE,hmt⟩
     have hBz:=(HBR.trans (hb3.mono HBR.size)).trans (hb4.mono (Df HBR.size hb3.size))
     have hsz:=Df HBR.size hb3.size
     have hmg:=HM.out
     revert hT hE hmg
     generalize cX (ah gs) St.zero (fun _=>true) (tR (ga,a2) (gb,b2))=res
     obtain⟨r1,R⟩:=res
     intro hT hE hmg
     cases r1 with
     | none =>
      simp only[FD]
      go_wp2_with fail
      go_ret2
      exact lR.none _ _ rfl hBz
     | some y =>
      simp only[FE]
      go_wp2_with fail
      go_ret2
      exact⟨_,rfl,fM hE hsz,hBz⟩
theorem kX:∀ (l:List Rg) (s:List UInt8) (k:Nat),(∀ r∈l,¬ r.name.data.toList=s)→cJ l s k=-1
 | [],_,_,_=>rfl
 | r :: l,s,k,h=>by
  rw[cJ,if_neg (h r (DC ..))]
  exact kX l s (k+1) (fun x hx=>h x (DZ _ hx))
theorem ue {gs:List Gd} (hS:aX gs=true) {g k:Nat} (hg:g<gs.length) (hk:k<(ag gs g).length):cS (ag gs g) k (aK gs g k)=true∧bV (ag gs g) k (aK gs g k)=true:=by
 have:=dT (bC hS hg) hk
 unfold bN at this
 simp only[Da] at this
 exact⟨this.1.1.1,this.1.1.2⟩
theorem wJ {gs:List Gd} (hS:aX gs=true) {g k:Nat} (hg:g<gs.length) (hk:k<(ag gs g).length):¬ (ag gs g)[k].name.data.toList=[]:=by
 have h:=(ue hS hg hk).1
 have hr:aK gs g k=(ag gs g)[k]:=by unfold aK;rw[C7 hk]
 rw[hr] at h
 intro e
 unfold cS bF at h
 rw[e] at h
 simp at h
theorem yu {gs:List Gd} (hS:aX gs=true) {g:Nat} (hg:g<gs.length):∀ (m k:Nat),k<(ag gs g).length→iw (ag gs g) m k=true→fR (ah gs) g m k=true
 | 0,_,_,h=>by cases h
 | m+1,k,hk,h=>by
  rw[fF hk] at h
  rw[fR]
  have hr:aK gs g k=(ag gs g)[k]:=by unfold aK;rw[C7 hk]
  have hnx:(ah gs).next g k=aE (ag gs g) (ag gs g)[k].next.data.toList:=by rw[←hr];rfl
  rw[hnx]
  split
  ·rfl
  ·rename_i hge
   have hne:¬ (ag gs g)[k].next.data.toList=[]:=fun e=>hge (by
    rw[e]
    have:=kX (ag gs g) [] 0 (fun r hr=>by
     obtain⟨j,hj,rfl⟩:=D0.1 hr
     exact wJ hS hg hj)
    unfold aE
    rw[this];decide)
   rw[if_neg hne] at h
   have hrg:=bH (ag gs g) (ag gs g)[k].next.data.toList
   exact yu hS hg m _ (by omega) h
theorem yV {gs:List Gd} (hS:aX gs=true) {g:Nat} (hg:g<gs.length):fi (ah gs) g:=by
 refine⟨bD hS,hg,fun k hk=>?_⟩
 have h:=bC hS hg
 unfold cC at h
 simp only[Da] at h
 have h2:=Dq.1 h.2 k (Dv.2 hk)
 exact yu hS hg _ k hk h2
def oq (gs:List Gd) (g bad:Int):Int×Int :=
 if aX gs=true then
  if 0≤g∧g≤(gs.length:Int)-1 then
   if 0≤bad∧bad≤8 then (a6 (ah gs) g.toNat 0 0 bad.toNat,0) else (0,8)
  else (0,2)
 else (0,40)
def j_ (w:World) (r:Int×Int) (e:Ending) (w':World):Prop:=e=.returned (.tuple #[.int .i64 r.1,.int .i64 r.2])∧Below w.heap.size w w'
theorem j_.is {w w':World}{r:Int×Int}{a b:Int} (h:r=(a,b)) (hb:Below w.heap.size w w'):j_ w r (.returned (.tuple #[.int .i64 a,.int .i64 b])) w':=by
 subst h
 exact⟨rfl,hb⟩
theorem Cm (gs:List Gd) (p:Option Addr) (c:Nat) (g bad:Int) (w:World) (hP:d8 w p c gs) :
  Calls Tryz.prog 24 #[.agg #[.slice p gs.length c],.int .i64 g,.int .i64 bad] w (j_ w (oq gs g bad)):=by
 have hb1:Below w.heap.size w ((w.alloc (.cells #[.slice p gs.length c] 24)).alloc (.cells #[.int .i64 g] 3)):=((Below.refl _ _).alloc (C6 _) _).alloc (by simp) _
 have s0:((w.alloc (.cells #[.slice p gs.length c] 24)).alloc (.cells #[.int .i64 g] 3)).heap[w.heap.size]?=some (.cells #[.slice p gs.length c] 24 (0,0)):=(heap_alloc_old _ _ (by simp)).trans (heap_alloc_new _ _)
 have s1:((w.alloc (.cells #[.slice p gs.length c] 24)).alloc (.cells #[.int .i64 g] 3)).heap[w.heap.size+1]?=some (.cells #[.int .i64 g] 3 (0,0)):=by
  have:=heap_alloc_new (w.alloc (.cells #[.slice p gs.length c] 24)) (.cells #[.int .i64 g] 3)
  simpa using this
 have P1:=hP.below hb1
 have c0:=ac s0 0
 have hmm:=@run_makeMap Tryz.prog
 go_enter Tryz.func24,Tryz.ntmps24
 go_upto_region 1 with fail
 generalize (w.alloc (.cells #[.slice p gs.length c] 24)).alloc (.cells #[.int .i64 g] 3)=w1 at *
 go_wp2_with fail
 refine P1.check.mono ?_
 rintro e w2 ⟨rfl,hb2⟩
 have P2:=P1.below hb2
 have t0:=(hb2.block _ (aw s0)).trans s0
 have t1:=(hb2.block _ (aw s1)).trans s1
 have HB2:=hb1.trans (hb2.mono hb1.size)
 clear s0 s1 hb2 hb1 P1 c0
 cases hS:aX gs
 ·simp only[DI,if_false]
  go_wp2_with fail
  all_goals go_ret2
  all_goals exact j_.is (by unfold oq;rw[if_neg (by rw[hS];exact Dl)]) HB2
 ·simp only[if_true]
  obtain⟨hl1,hl3⟩:=a_ hS
  have e0:=ac t0 0
  have e1:=ac t1 0
  have hwg:oq gs g bad=if 0≤g∧g≤(gs.length:Int)-1 then (if 0≤bad∧bad≤8 then (a6 (ah gs) g.toNat 0 0 bad.toNat,0) else (0,8)) else (0,2):=by unfold oq;rw[if_pos hS]
  have HWG:=C5 hwg
  clear hwg
  by_cases hg:0≤g∧g≤(gs.length:Int)-1
  ·have hT:=C5 (fX hg.1 hg.2)
   have HG:=C5 hg
   obtain⟨gn,rfl⟩:∃ gn:Nat,g=gn:=⟨g.toNat,by omega⟩
   have hgn:gn<gs.length:=by omega
   clear hg
   by_cases hbd:0≤bad∧bad≤8
   ·have hT2:=C5 (fX hbd.1 hbd.2)
    have HBD:=C5 hbd
    obtain⟨bn,rfl⟩:∃ bn:Nat,bad=bn:=⟨bad.toNat,by omega⟩
    have hbn:bn≤8:=by omega
    clear hbd
    go_wp2_with fail
    refine (hT.out _).mono ?_
    rintro e w3 ⟨rfl,rfl⟩
    go_wp2_with fail
    refine (hT2.out _).mono ?_
    rintro e w3 ⟨rfl,rfl⟩
    go_wp2_with fail
    refine (rW gs p c w3 P2.G hS).mono ?_
    rintro e w4 ⟨mB,vn,vb,mb,Nm,sm,f,rfl,hM,hb3⟩
    have hk0:0<(ag gs gn).length:=by have:=(bD hS).r0 gn hgn;exact this
    obtain⟨bg,og,bn1,on1,cn1,bu,ou,cu,bb,ob,cb,bv,ov,cv,br,orr,cr,rfl,hgr,hWB⟩:=CW hM hgn hk0
    have e0':=(hb3.cell (block_lt_of_cell e0)).trans e0
    have e1':=(hb3.cell (block_lt_of_cell e1)).trans e1
    have hgl:=block_lt_of_cell hgr
    have u0:=(hb3.block _ (aw t0)).trans t0
    have u1:=(hb3.block _ (aw t1)).trans t1
    have l0:w.heap.size<w4.heap.size:=aw u0
    have l1:w.heap.size+1<w4.heap.size:=aw u1
    clear e0 e1 t0 t1
    go_upto_region 12 with fail
    obtain⟨v1,hv1⟩:∃ v1,v1=w4.alloc (.cells #[.pointer (some ⟨mB,0,none⟩)] 78):=⟨_,rfl⟩
    have z1:v1.heap.size=w4.heap.size+1:=by rw[hv1];simp
    have n1:v1.heap[w4.heap.size]?=some (.cells #[.pointer (some ⟨mB,0,none⟩)] 78 (0,0)):=by rw[hv1];exact heap_alloc_new _ _
    have d1:Below w4.heap.size w4 v1:=by rw[hv1];exact (Below.refl _ _).alloc (C6 _) _
    obtain⟨v2,hv2⟩:∃ v2,v2=v1.alloc (.cells #[.slice (some ⟨br,orr,none⟩) (ag gs gn).length cr] 60):=⟨_,rfl⟩
    have z2:v2.heap.size=w4.heap.size+1+1:=by rw[hv2];simp[z1]
    have n2:v2.heap[w4.heap.size+1]?=some (.cells #[.slice (some ⟨br,orr,none⟩) (ag gs gn).length cr] 60 (0,0)):=by rw[hv2,←z1];exact heap_alloc_new _ _
    have d2:Below v1.heap.size v1 v2:=by rw[hv2];exact (Below.refl _ _).alloc (C6 _) _
    obtain⟨v3,hv3⟩:∃ v3,v3=v2.alloc (.map #[] 0):=⟨_,rfl⟩
    have z3:v3.heap.size=w4.heap.size+1+1+1:=by rw[hv3];simp[z2]
    have mp:=cY.made v2 Tryz.prog 84 kG Cb
    rw[←hv3,z2] at mp
    have d3:Below v2.heap.size v2 v3:=by rw[hv3];exact (Below.refl _ _).alloc (C6 _) _
    obtain⟨v4,hv4⟩:∃ v4,v4=v3.alloc (.cells #[.map (some (w4.heap.size+1+1))] 113):=⟨_,rfl⟩
    have z4:v4.heap.size=w4.heap.size+1+1+1+1:=by rw[hv4];simp[z3]
    have n4:v4.heap[w4.heap.size+1+1+1]?=some (.cells #[.map (some (w4.heap.size+1+1))] 113 (0,0)):=by rw[hv4,←z3];exact heap_alloc_new _ _
    have d4:Below v3.heap.size v3 v4:=by rw[hv4];exact (Below.refl _ _).alloc (C6 _) _
    obtain⟨v5,hv5⟩:∃ v5,v5=v4.alloc (.cells #[.nilFunc] 114):=⟨_,rfl⟩
    have z5:v5.heap.size=w4.heap.size+1+1+1+1+1:=by rw[hv5];simp[z4]
    have n5:v5.heap[w4.heap.size+1+1+1+1]?=some (.cells #[.nilFunc] 114 (0,0)):=by rw[hv5,←z4];exact heap_alloc_new _ _
    have d5:Below v4.heap.size v4 v5:=by rw[hv5];exact (Below.refl _ _).alloc (C6 _) _
    rw[←hv1,←hv2,←hv3,←hv4,←hv5]
    clear hv1 hv2 hv3 hv4 hv5
    have x9:v5.heap[w4.heap.size]?=some (.cells #[.pointer (some ⟨mB,0,none⟩)] 78 (0,0)):=(d5.block _ (by omega)).trans ((d4.block _ (by omega)).trans ((d3.block _ (by omega)).trans ((d2.block _ (by omega)).trans n1)))
    have x10:v5.heap[w4.heap.size+1]?=some (.cells #[.slice (some ⟨br,orr,none⟩) (ag gs gn).length cr] 60 (0,0)):=(d5.block _ (by omega)).trans ((d4.block _ (by omega)).trans ((d3.block _ (by omega)).trans n2))
    have xm:=(mp.same (d4.block _ (by omega))).same (d5.block _ (by omega))
    have x11:v5.heap[w4.heap.size+1+1+1]?=some (.cells #[.map (some (w4.heap.size+1+1))] 113 (0,0)):=(d5.block _ (by omega)).trans n4
    have x4:v5.heap[w.heap.size+1]?=some (.cells #[.int .i64 gn] 3 (0,0)):=(d5.block _ (by omega)).trans ((d4.block _ (by omega)).trans ((d3.block _ (by omega)).trans ((d2.block _ (by omega)).trans ((d1.block _ l1).trans u1))))
    have hbv:Below w4.heap.size w4 v5:=(((d1.trans (d2.mono (by omega))).trans (d3.mono (by omega))).trans (d4.mono (by omega))).trans (d5.mono (by omega))
    have q12:=ac n5 0
    have f12:=frozen_of_row v5 (w4.heap.size+1+1+1+1) 0 _ _ n5
    have E6:qV w4 (v5.setCell ⟨w4.heap.size+1+1+1+1,0,none⟩ (.func (.func 64) #[] #[.pointer (some ⟨w4.heap.size,0,none⟩),.pointer (some ⟨w.heap.size+1,0,none⟩),.pointer (some ⟨w4.heap.size+1+1+1,0,none⟩),.pointer (some ⟨w4.heap.size+1+1+1+1,0,none⟩),.pointer (some ⟨w4.heap.size+1,0,none⟩)])) gs gn mB (w4.heap.size+1+1) (w.heap.size+1) w4.heap.size (w4.heap.size+1) (w4.heap.size+1+1+1) (w4.heap.size+1+1+1+1) br orr cr:=by
     refine⟨hbv.setCell (p:=⟨w4.heap.size+1+1+1+1,0,none⟩) (by show w4.heap.size≤w4.heap.size+1+1+1+1;omega) _,by omega,(heap_setCell_other _ _ _ _ (by show w4.heap.size≠w4.heap.size+1+1+1+1;omega)).trans x9,(heap_setCell_other _ _ _ _ (by show w.heap.size+1≠w4.heap.size+1+1+1+1;omega)).trans x4,(heap_setCell_other _ _ _ _ (by show w4.heap.size+1+1+1≠w4.heap.size+1+1+1+1;omega)).trans x11,?_,(heap_setCell_other _ _ _ _ (by show w4.heap.size+1≠w4.heap.size+1+1+1+1;omega)).trans x10⟩
     rw[heap_setCell_same _ _ _ _ _ _ n5];rfl
    have M6:eW (ah gs) gn (v5.setCell ⟨w4.heap.size+1+1+1+1,0,none⟩ (.func (.func 64) #[] #[.pointer (some ⟨w4.heap.size,0,none⟩),.pointer (some ⟨w.heap.size+1,0,none⟩),.pointer (some ⟨w4.heap.size+1+1+1,0,none⟩),.pointer (some ⟨w4.heap.size+1+1+1+1,0,none⟩),.pointer (some ⟨w4.heap.size+1,0,none⟩)])) (w4.heap.size+1+1) []:=by
     have hm:mD (ah gs) gn []=fun _=>none:=by funext z;unfold mD;simp
     exact⟨by rw[hm];exact xm.same (heap_setCell_other _ _ _ _ (by show w4.heap.size+1+1≠w4.heap.size+1+1+1+1;omega)),FA,fun z hz=>by cases hz⟩
    go_upto_region 13 with fail
    generalize v5.setCell ⟨w4.heap.size+1+1+1+1,0,none⟩ (.func (.func 64) #[] #[.pointer (some ⟨w4.heap.size,0,none⟩),.pointer (some ⟨w.heap.size+1,0,none⟩),.pointer (some ⟨w4.heap.size+1+1+1,0,none⟩),.pointer (some ⟨w4.heap.size+1+1+1+1,0,none⟩),.pointer (some ⟨w4.heap.size+1,0,none⟩)])=v6 at *
    have c12:=ac E6.h12 0
    have htr:((0:Nat):Int)<(ah gs).tries gn 0:=by have:=(bD hS).tries gn 0 hgn hk0;omega
    go_wp2_with fail
    refine (Bo gs hS gn hgn (yV hS hgn) w4 mB (w4.heap.size+1+1) (w.heap.size+1) w4.heap.size (w4.heap.size+1) (w4.heap.size+1+1+1) (w4.heap.size+1+1+1+1) bn1 on1 cn1 bu ou cu bb ob cb bv ov cv br orr cr hWB _ 0 0 bn _ _ _ rfl rfl rfl hk0 htr hbn rfl v6 [] E6 M6).mono ?_
    rintro e v7 ⟨rfl,hg7,L7,M7,_,_⟩
    have hB7:Below w.heap.size w v7:=((HB2.trans (hb3.mono HB2.size)).trans (E6.bl.mono (by omega))).grown hg7 (by have:=E6.bl.size;omega) (fun k hk=>by cases hk;omega)
    go_wp2_with fail
    go_ret2
    exact j_.is (by rw[HWG.out,if_pos HG.out,if_pos HBD.out];simp only[Dr]) hB7
   ·have hT2:=C5 (fW hbd)
    have HBD:=C5 hbd
    clear hbd
    go_wp2_with fail
    refine (hT.out _).mono ?_
    rintro e w3 ⟨rfl,rfl⟩
    go_wp2_with fail
    refine (hT2.out _).mono ?_
    rintro e w3 ⟨rfl,rfl⟩
    go_wp2_with fail
    go_ret2
    exact j_.is (by rw[HWG.out,if_pos HG.out,if_neg HBD.out]) HB2
  ·have hT:=C5 (fW hg)
   have HG:=C5 hg
   clear hg
   go_wp2_with fail
   refine (hT.out _).mono ?_
   rintro e w3 ⟨rfl,rfl⟩
   go_wp2_with fail
   go_ret2
   exact j_.is (by rw[HWG.out,if_neg HG.out]) HB2
structure qQ (w:World) (v:Value) (l:List Ev):Prop where
 at_:∃ p c,v=.slice p l.length c∧(0<l.length→∃ b o,p=some ⟨b,o,none⟩∧b<w.heap.size∧∀ i (h:i<l.length),w.cell? ⟨b,o+i*2,none⟩=some (.int .i64 l[i].g)∧w.cell? ⟨b,o+i*2+1,none⟩=some (.int .i64 l[i].k))
theorem qQ.below {w w':World}{v:Value}{l:List Ev} (h:qQ w v l) (hb:Below w.heap.size w w'):qQ w' v l:=by
 obtain⟨p,c,e,hc⟩:=h.at_
 refine⟨p,c,e,fun hl=>?_⟩
 obtain⟨b,o,e2,hlt,hi⟩:=hc hl
 exact⟨b,o,e2,C8 hlt hb.size,fun i hi2=>⟨(hb.cell (p:=⟨b,_,none⟩) hlt).trans (hi i hi2).1,(hb.cell (p:=⟨b,_,none⟩) hlt).trans (hi i hi2).2⟩⟩
theorem lK {α:Type}{la lb:List α}{i:Nat} (ha:i<la.length) (hb:i<lb.length) (h:la.take i=lb.take i) (hi:la[i]=lb[i]):la.take (i+1)=lb.take (i+1):=by
 rw[DH,DH,h,C7 ha,C7 hb,hi]
theorem jC (va vb:Value) (la lb:List Int) (w:World) (ha:aN w va la) (hb:aN w vb lb) (hn:la.length≤1000000) (hm:lb.length≤1000000) :
  Calls Tryz.prog 55 #[va,vb] w fun e w'=>e=.returned (.bool (decide (la=lb)))∧Below w.heap.size w w':=by
 obtain⟨p,c,rfl,hc⟩:=ha.at_
 obtain⟨q,d,rfl,hd⟩:=hb.at_
 have HA:=C5 hc
 have HB:=C5 hd
 clear ha hb hc hd
 go_enter Tryz.func55,Tryz.ntmps55
 by_cases hl:la.length=lb.length
 ·have hd:(((la.length:Nat):Int) == ((lb.length:Nat):Int))=true:=by simp[hl]
  have HL:=C5 hl
  obtain⟨n,hna⟩:∃ n,n=la.length:=⟨_,rfl⟩
  obtain⟨m,hmb⟩:∃ m,m=lb.length:=⟨_,rfl⟩
  rw[←hna,←hmb] at hd
  rw[←hna] at hn
  rw[←hmb] at hm
  rw[←hna,←hmb]
  have HN:=C5 hna
  have HM:=C5 hmb
  clear hna hmb hl
  go_wp2_with fail
  go_loopw [5] (fun s5 wr=>∃ i:Nat,s5=.int .i64 i∧i≤n∧Below w.heap.size w wr∧Hid (la.take i=lb.take i)) (fun s5 _=>n-(intOf s5).toNat)
  case atStart=>exact⟨0,rfl,by omega,Below.refl _ _,rfl⟩
  case round =>
   obtain⟨i,rfl,hi,hbl,hx⟩:=hrel
   by_cases hil:i<n
   ·have hia:i<la.length:=by have:=HN.out;omega
    have hib:i<lb.length:=by have:=HL.out;omega
    obtain⟨b,o,rfl,hbw,hcs⟩:=HA.out (by omega)
    obtain⟨b2,o2,rfl,hbw2,hcs2⟩:=HB.out (by omega)
    have e0:=(hbl.cell (p:=⟨b,_,none⟩) hbw).trans (hcs i hia)
    have e1:=(hbl.cell (p:=⟨b2,_,none⟩) hbw2).trans (hcs2 i hib)
    obtain⟨x,hx1⟩:∃ x,x=la[i]:=⟨_,rfl⟩
    obtain⟨y,hy1⟩:∃ y,y=lb[i]:=⟨_,rfl⟩
    rw[←hx1] at e0
    rw[←hy1] at e1
    have HX:=C5 hx1
    have HY:=C5 hy1
    have him:i<m:=by have:=HM.out;have:=HL.out;have:=HN.out;omega
    clear hx1 hy1 hcs hcs2
    by_cases hxy:x=y
    ·have hd2:(x == y)=true:=by simp[hxy]
     have HXY:=C5 hxy
     clear hxy
     go_wp2_with fail
     go_quiet (fail)
     go_wp2_with fail
     go_roundw
     case rel=>exact⟨i+1,by go_num,by omega,below_drewN hbl _,lK hia hib hx.out (by rw[←HX.out,←HY.out];exact HXY.out)⟩
     case measure=>simp[intOf];omega
    ·have hd2:(x == y)=false:=by simp[hxy]
     have HXY:=C5 hxy
     clear hxy
     go_wp2_with fail
     go_quiet (fail)
     go_wp2_with fail
     go_ret
     have hne:¬ la=lb:=fun e=>HXY.out (by rw[HX.out,HY.out];simp[e])
     exact⟨by simp[hne],below_drewN hbl _⟩
   ·have hie:i=n:=by omega
    subst hie
    clear hil hi
    go_wp2_with fail
    go_ret
    have he:la=lb:=by
     have h1:=hx.out
     rw[Db (by have:=HN.out;omega),Db (by have:=HN.out;have:=HL.out;omega)] at h1
     exact h1
    exact⟨by simp[he],hbl⟩
 ·have hd:(((la.length:Nat):Int) == ((lb.length:Nat):Int))=false:=by simp;omega
  go_wp2_with fail
  go_ret
  have hne:¬ la=lb:=fun e=>hl (by rw[e])
  exact⟨by simp[hne],Below.refl _ _⟩
theorem zP (w:World) (n:Nat) (a b c d:Int):(Op.equalIn (n+1+1) 53 (.agg #[.int .i64 a,.int .i64 b]) (.agg #[.int .i64 c,.int .i64 d])).run Tryz.prog w=.ok (a == c&&b == d) w:=by
 have hs:Tryz.prog.stoodInHeld 53=false:=by kernel_rfl
 have c3:Tryz.prog.cellsOf 3=1:=mS
 have hu:=Tryz.underlying53
 have h3:=lN
 rw[run_equalIn_struct w _ _ _ _ (by simp[Program.fieldsOf,hu]) hs]
 simp[go_sem,Program.fieldsOf,hu,Op.eqFields]
 by_cases h1:a=c<;>by_cases h2:b=d<;>simp[h1,h2]
theorem A0:Tryz.prog.eqGuardType Tryz.prog.depth 53=false:=by kernel_rfl
theorem xc (w:World) (a b c d:Int):(Op.equalIn 10000 53 (.agg #[.int .i64 a,.int .i64 b]) (.agg #[.int .i64 c,.int .i64 d])).run Tryz.prog w=.ok (a == c&&b == d) w:=zP w _ a b c d
theorem sB (va vb:Value) (la lb:List Ev) (w:World) (ha:qQ w va la) (hb:qQ w vb lb) (hn:la.length≤1000000) (hm:lb.length≤1000000) :
  Calls Tryz.prog 15 #[va,vb] w fun e w'=>e=.returned (.bool (decide (la=lb)))∧Below w.heap.size w w':=by
 obtain⟨p,c,rfl,hc⟩:=ha.at_
 obtain⟨q,d,rfl,hd⟩:=hb.at_
 have HA:=C5 hc
 have HB:=C5 hd
 clear ha hb hc hd
 go_enter Tryz.func15,Tryz.ntmps15
 by_cases hl:la.length=lb.length
 ·have hd:(((la.length:Nat):Int) == ((lb.length:Nat):Int))=true:=by simp[hl]
  have HL:=C5 hl
  obtain⟨n,hna⟩:∃ n,n=la.length:=⟨_,rfl⟩
  obtain⟨m,hmb⟩:∃ m,m=lb.length:=⟨_,rfl⟩
  rw[←hna,←hmb] at hd
  rw[←hna] at hn
  rw[←hmb] at hm
  rw[←hna,←hmb]
  have HN:=C5 hna
  have HM:=C5 hmb
  clear hna hmb hl
  go_wp2_with fail
  go_loopw [5] (fun s5 wr=>∃ i:Nat,s5=.int .i64 i∧i≤n∧Below w.heap.size w wr∧Hid (la.take i=lb.take i)) (fun s5 _=>n-(intOf s5).toNat)
  case atStart=>exact⟨0,rfl,by omega,Below.refl _ _,rfl⟩
  case round =>
   obtain⟨i,rfl,hi,hbl,hx⟩:=hrel
   by_cases hil:i<n
   ·have hia:i<la.length:=by have:=HN.out;omega
    have hib:i<lb.length:=by have:=HL.out;omega
    obtain⟨b,o,rfl,hbw,hcs⟩:=HA.out (by omega)
    obtain⟨b2,o2,rfl,hbw2,hcs2⟩:=HB.out (by omega)
    have e0:=(hbl.cell (p:=⟨b,_,none⟩) hbw).trans (hcs i hia).1
    have e1:=(hbl.cell (p:=⟨b2,_,none⟩) hbw2).trans (hcs2 i hib).1
    have e2:=(hbl.cell (p:=⟨b,_,none⟩) hbw).trans (hcs i hia).2
    have e3:=(hbl.cell (p:=⟨b2,_,none⟩) hbw2).trans (hcs2 i hib).2
    obtain⟨x,hx1⟩:∃ x,x=la[i]:=⟨_,rfl⟩
    obtain⟨y,hy1⟩:∃ y,y=lb[i]:=⟨_,rfl⟩
    rw[←hx1] at e0 e2
    rw[←hy1] at e1 e3
    have HX:=C5 hx1
    have HY:=C5 hy1
    have him:i<m:=by have:=HM.out;have:=HL.out;have:=HN.out;omega
    clear hx1 hy1 hcs hcs2
    obtain⟨xg,xk⟩:=x
    obtain⟨yg,yk⟩:=y
    simp only at e0 e1 e2 e3
    have heq:=fun w=>xc w xg xk yg yk
    have hgd:=A0
    by_cases hxy:xg=yg∧xk=yk
    ·obtain⟨rfl,rfl⟩:=hxy
     go_wp2_with fail
     go_quiet (fail)
     go_wp2_with fail
     go_roundw
     case rel=>exact⟨i+1,by go_num,by omega,below_drewN hbl _,lK hia hib hx.out (by rw[←HX.out,←HY.out])⟩
     case measure=>simp[intOf];omega
    ·have hxy2:¬ (Ev.mk xg xk)=⟨yg,yk⟩:=by simpa using hxy
     have HXY:=C5 hxy2
     have hd2:(xg == yg&&xk == yk)=false:=by simp;simpa using hxy
     clear hxy2
     go_wp2_with fail
     go_quiet (fail)
     go_wp2_with fail
     go_ret
     have hne:¬ la=lb:=fun e=>HXY.out (by rw[HX.out,HY.out];simp[e])
     exact⟨by simp[hne],below_drewN hbl _⟩
   ·have hie:i=n:=by omega
    subst hie
    clear hil hi
    go_wp2_with fail
    go_ret
    have he:la=lb:=by
     have h1:=hx.out
     rw[Db (by have:=HN.out;omega),Db (by have:=HN.out;have:=HL.out;omega)] at h1
     exact h1
    exact⟨by simp[he],hbl⟩
 ·have hd:(((la.length:Nat):Int) == ((lb.length:Nat):Int))=false:=by simp;omega
  go_wp2_with fail
  go_ret
  have hne:¬ la=lb:=fun e=>hl (by rw[e])
  exact⟨by simp[hne],Below.refl _ _⟩
theorem rp (gs:List Gd) (p:Option Addr) (c:Nat) (m:Nat) (v:Ev) (w:World) (hm:w.cell? ⟨m,0,none⟩=some (.slice p gs.length c)) (hn:gs.length≤3) :
  Calls Tryz.prog 66 #[.pointer (some ⟨m,0,none⟩),.agg #[.int .i64 v.g,.int .i64 v.k]] w (fun e w'=>e=.returned (.bool (dG (ah gs) v))∧Below w.heap.size w w'):=by
 obtain⟨g,k⟩:=v
 simp only
 have hml:m<w.heap.size:=block_lt_of_cell hm
 have hbl:Below w.heap.size w (w.alloc (.cells #[.int .i64 g,.int .i64 k] 53)):=(Below.refl _ _).alloc (C6 _) _
 have e0:=an w #[.int .i64 g,.int .i64 k] 53 0 _ rfl
 have e1:=an w #[.int .i64 g,.int .i64 k] 53 1 _ rfl
 have hm2:=(hbl.cell (p:=⟨m,0,none⟩) hml).trans hm
 go_enter Tryz.func66,Tryz.ntmps66
 go_upto_region 1 with fail
 generalize w.alloc (.cells #[.int .i64 g,.int .i64 k] 53)=w1 at *
 by_cases h1:0≤g∧g≤(gs.length:Int)-1
 ·have hT1:=C5 (fX h1.1 h1.2)
  have H1:=C5 h1
  clear h1
  by_cases h2:0≤k∧k≤2
  ·have hT2:=C5 (fX h2.1 h2.2)
   go_quiet ((go_at_call 49;first | with_reducible exact bS (hT1.out _) | with_reducible exact bS (hT2.out _)))
   go_wp2_with fail
   go_ret
   have:=H1.out
   exact⟨by unfold dG ah;simp;omega,below_drewN hbl _⟩
  ·have hT2:=C5 (fW h2)
   go_quiet ((go_at_call 49;first | with_reducible exact bS (hT1.out _) | with_reducible exact bS (hT2.out _)))
   go_wp2_with fail
   go_ret
   exact⟨by unfold dG ah;simp;omega,below_drewN hbl _⟩
 ·have hT1:=C5 (fW h1)
  have H1:=C5 h1
  clear h1
  go_quiet ((go_at_call 49;with_reducible exact bS (hT1.out _)))
  go_wp2_with fail
  go_ret
  have:=H1.out
  exact⟨by unfold dG ah;simp;omega,below_drewN hbl _⟩
theorem nZ:∀ (q:List St) (i:Nat) (h:i<q.length) (j:Nat),j<6→(q.flatMap aU)[i*6+j]?=(aU q[i])[j]?
 | [],i,h,_,_=>by simp at h
 | x :: q,0,_,j,hj=>by
  rw[DN,DF (by simp[aU];omega)]
  simp
 | x :: q,i+1,h,j,hj=>by
  rw[DN,Fd (by simp[aU];omega)]
  rw[show (i+1)*6+j-(aU x).length=i*6+j by simp[aU];omega]
  exact nZ q i (by simpa using h) j hj
theorem dh.get {B:Nat}{w:World}{v:Value}{q:List St} (h:dh B w v q) {i:Nat} (hi:i<q.length):∃ g off cap,v=.slice (some ⟨g,off,none⟩) q.length cap∧g<w.heap.size ∧
  w.cell? ⟨g,off+i*6,none⟩=some (.int .i64 q[i].a0)∧w.cell? ⟨g,off+i*6+1,none⟩=some (.int .i64 q[i].a1)∧w.cell? ⟨g,off+i*6+2,none⟩=some (.int .i64 q[i].a2)∧w.cell? ⟨g,off+i*6+3,none⟩=some (.int .i64 q[i].f0)∧w.cell? ⟨g,off+i*6+4,none⟩=some (.int .i64 q[i].f1)∧w.cell? ⟨g,off+i*6+5,none⟩=some (.int .i64 q[i].f2):=by
 obtain⟨ao,cap,rfl,h1,h2,h3⟩:=h
 obtain⟨g,off,cur,rfl,hB,hg,h4,h5⟩:=h3 (by omega)
 have key:∀ j u,j<6→(aU q[i])[j]?=some u→w.cell? ⟨g,off+i*6+j,none⟩=some u:=fun j u hj hu=>by
  rw[cell_of_row w g _ cur _ _ hg,DS]
  exact h5 _ _ ((nZ q i hi j hj).trans hu)
 exact⟨g,off,cap,rfl,aw hg,key 0 _ (by omega) rfl,key 1 _ (by omega) rfl,key 2 _ (by omega) rfl,key 3 _ (by omega) rfl,key 4 _ (by omega) rfl,key 5 _ (by omega) rfl⟩
theorem iz {P:Program}{w w':World}{o:Oper}{a:Act}{K:Act→World→Prop}{Q:Exit→Act→World→Prop} (s x:Operand) (t:TypeId)
  (hop:o.op=Op.call { callee:=Callee.builtin Builtin.append,args:=#[s,x],argTypes:=#[t,t] }) {v x' v':Value} (hs:a.eval s=v) (hx:a.eval x=x') (hrun:(Builtin.append_ #[t,t] o.type #[v,x']).run P w=.ok v' w')
  (hK:K (a.put o.dst v') w'):Oper.wp P o a w K Q:=by
 unfold Oper.wp
 simp[execOp,hop,resolve,invoke,builtin,hs,hx,hrun,Result.andThen]
 exact hK
end Go.Proofs.YtnkgbocdpngldaaGreatDoor
