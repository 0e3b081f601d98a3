/- Lemmas of this claim. -/
import Derived.BigQuiet
import Derived.Test.YtlkniohhalnjjaaGreatDoorKSea1
import Derived.Test.YtlkniohhalnjjaaGreatDoorKCnt
set_option linter.all false
set_option maxRecDepth 100000
set_option maxHeartbeats 8000000
namespace Go.Proofs.YtlkniohhalnjjaaGreatDoor
open Go.RowKit Dc Dg
def nh (a b:Nat×Int) (x:St):Bool:=decide (x.a a.1=a.2)&&decide (x.a b.1=b.2)
theorem metN (a b:Nat×Int) (ha:a.1<3) (hb:b.1<3) (ka kb:Nat) (w:World)
  (a0:w.cell? ⟨ka,0,none⟩=some (.int .i64 a.1)) (a1:w.cell? ⟨ka,1,none⟩=some (.int .i64 a.2)) (b0:w.cell? ⟨kb,0,none⟩=some (.int .i64 b.1)) (b1:w.cell? ⟨kb,1,none⟩=some (.int .i64 b.2)) (y:St) :
  Calls Tryz.prog 29 #[.agg #[.int .i64 y.a0,.int .i64 y.a1,.int .i64 y.a2,.int .i64 y.f0,.int .i64 y.f1,.int .i64 y.f2],.pointer (some ⟨ka,0,none⟩),.pointer (some ⟨kb,0,none⟩)] w (fun e w'=>e=.returned (.bool (nh a b y))∧Below w.heap.size w w'):=by
 obtain⟨ga,ra⟩:=a
 obtain⟨gb,rb⟩:=b
 simp only at ha hb a0 a1 b0 b1
 have la:=block_lt_of_cell a0
 have lb:=block_lt_of_cell b0
 have hS:=StP.new w y
 have sa:=hS.a ha
 have sb:=hS.a hb
 have da:((ga:Nat):Int)<3:=by omega
 have db:((gb:Nat):Int)<3:=by omega
 have ca0:=fw a0 (.cells #[.int .i64 y.a0,.int .i64 y.a1,.int .i64 y.a2,.int .i64 y.f0,.int .i64 y.f1,.int .i64 y.f2] 71)
 have ca1:=fw a1 (.cells #[.int .i64 y.a0,.int .i64 y.a1,.int .i64 y.a2,.int .i64 y.f0,.int .i64 y.f1,.int .i64 y.f2] 71)
 have cb0:=fw b0 (.cells #[.int .i64 y.a0,.int .i64 y.a1,.int .i64 y.a2,.int .i64 y.f0,.int .i64 y.f1,.int .i64 y.f2] 71)
 have cb1:=fw b1 (.cells #[.int .i64 y.a0,.int .i64 y.a1,.int .i64 y.a2,.int .i64 y.f0,.int .i64 y.f1,.int .i64 y.f2] 71)
 have hbl:Below w.heap.size w (w.alloc (.cells #[.int .i64 y.a0,.int .i64 y.a1,.int .i64 y.a2,.int .i64 y.f0,.int .i64 y.f1,.int .i64 y.f2] 71)):=(Below.refl _ _).alloc (uo _) _
 have hz:(w.alloc (.cells #[.int .i64 y.a0,.int .i64 y.a1,.int .i64 y.a2,.int .i64 y.f0,.int .i64 y.f1,.int .i64 y.f2] 71)).heap.size=w.heap.size+1:=by simp
 clear hS a0 a1 b0 b1 la lb
 go_enter Tryz.func29,Tryz.ntmps29
 go_upto_region 1 with fail
 generalize w.alloc (.cells #[.int .i64 y.a0,.int .i64 y.a1,.int .i64 y.a2,.int .i64 y.f0,.int .i64 y.f1,.int .i64 y.f2] 71)=w1 at *
 by_cases h:y.a ga=ra
 ·have hd:(y.a ga == ra)=true:=by simp[h]
  go_quiet (fail)
  go_wp2_with fail
  go_ret
  exact⟨by simp[nh,h];rfl,below_drewN hbl _⟩
 ·have hd:(y.a ga == ra)=false:=by simp[h]
  go_quiet (fail)
  go_wp2_with fail
  go_ret
  exact⟨by simp[nh,h],below_drewN hbl _⟩
def cU (gs:List Gd) (a:Int×Int):Bool:=(decide (0≤a.1)&&decide (a.1≤(gs.length:Int)-1))&&(decide (0≤a.2)&&decide (a.2≤((ac gs a.1.toNat).length:Int)-1))
def dj (gs:List Gd) (a b:Int×Int):List Ev×Int :=
 if aS gs=true then
  if (cU gs a&&cU gs b)=true∧¬ a.1=b.1 then
   match a6 (ad gs) St.zero (fun _=>true) (nh (a.1.toNat,a.2) (b.1.toNat,b.2)) with
   | (some y,R)=>(iS R y,0)
   | (none,_)=>([],4)
  else ([],2)
 else ([],40)
def iq (w:World) (r:List Ev×Int) (e:Ending) (w':World):Prop:=∃ v,e=.returned (.tuple #[v,.int .i64 r.2])∧EvR w.heap.size w' v r.1∧Below w.heap.size w w'
theorem iq.none (w w':World) {r:List Ev×Int}{n:Int} (h:r=([],n)) (hb:Below w.heap.size w w'):iq w r (.returned (.tuple #[.slice none 0 0,.int .i64 n])) w':=by
 subst h
 exact⟨_,rfl,World.ownsRow_nil _ _ _ _,hb⟩
theorem dK {n low high:Int} (h1:low≤n) (h2:n≤high) (w:World):Calls Tryz.prog 27 #[.int .i64 n,.int .i64 low,.int .i64 high] w fun e w'=>e=.returned (.bool true)∧w'=w:=by
 refine (kU n low high w).mono ?_
 rintro e w' ⟨rfl,rfl⟩
 exact⟨by simp[h1,h2],rfl⟩
theorem dJ {n low high:Int} (h:¬ (low≤n∧n≤high)) (w:World):Calls Tryz.prog 27 #[.int .i64 n,.int .i64 low,.int .i64 high] w fun e w'=>e=.returned (.bool false)∧w'=w:=by
 refine (kU n low high w).mono ?_
 rintro e w' ⟨rfl,rfl⟩
 exact⟨by congr 2;rw[Bool.eq_false_iff];simpa using h,rfl⟩
theorem aT {P:Program}{f:FuncId}{args:Array Value}{w:World}{n:Nat}{v:Value}
  (h:Calls P f args (w.drewN n) fun e w'=>e=.returned v∧w'=w.drewN n):Calls P f args (w.drewN n) fun e w''=>e=.returned v∧∃ k,w''=w.drewN k :=
 h.mono fun _ _ ⟨he,hm⟩=>⟨he,n,hm⟩
def qU (gs:List Gd) (a b:Int×Int) (i:Nat):Prop:=(1≤i→cU gs a=true)∧(2≤i→cU gs b=true)
theorem qO (gs:List Gd) (p:Option Addr) (c:Nat) (a b:Int×Int) (w:World) (hP:dM w p c gs) :
  Calls Tryz.prog 9 #[.agg #[.slice p gs.length c],.agg #[.int .i64 a.1,.int .i64 a.2],.agg #[.int .i64 b.1,.int .i64 b.2]] w (iq w (dj gs a b)):=by
 obtain⟨a1,a2⟩:=a
 obtain⟨b1,b2⟩:=b
 simp only
 have hb1:Below w.heap.size w (((w.alloc (.cells #[.slice p gs.length c] 28)).alloc (.cells #[.int .i64 a1,.int .i64 a2] 42)).alloc (.cells #[.int .i64 b1,.int .i64 b2] 42)):=(((Below.refl _ _).alloc (uo _) _).alloc (by simp) _).alloc (by simp;omega) _
 have s0:(((w.alloc (.cells #[.slice p gs.length c] 28)).alloc (.cells #[.int .i64 a1,.int .i64 a2] 42)).alloc (.cells #[.int .i64 b1,.int .i64 b2] 42)).heap[w.heap.size]?=some (.cells #[.slice p gs.length c] 28 (0,0)):=(heap_alloc_old _ _ (by simp;omega)).trans ((heap_alloc_old _ _ (by simp)).trans (heap_alloc_new _ _))
 have s1:(((w.alloc (.cells #[.slice p gs.length c] 28)).alloc (.cells #[.int .i64 a1,.int .i64 a2] 42)).alloc (.cells #[.int .i64 b1,.int .i64 b2] 42)).heap[w.heap.size+1]?=some (.cells #[.int .i64 a1,.int .i64 a2] 42 (0,0)):=by
  refine (heap_alloc_old _ _ (by simp)).trans ?_
  have:=heap_alloc_new (w.alloc (.cells #[.slice p gs.length c] 28)) (.cells #[.int .i64 a1,.int .i64 a2] 42)
  simpa using this
 have s2:(((w.alloc (.cells #[.slice p gs.length c] 28)).alloc (.cells #[.int .i64 a1,.int .i64 a2] 42)).alloc (.cells #[.int .i64 b1,.int .i64 b2] 42)).heap[w.heap.size+1+1]?=some (.cells #[.int .i64 b1,.int .i64 b2] 42 (0,0)):=by
  have:=heap_alloc_new ((w.alloc (.cells #[.slice p gs.length c] 28)).alloc (.cells #[.int .i64 a1,.int .i64 a2] 42)) (.cells #[.int .i64 b1,.int .i64 b2] 42)
  simpa using this
 have P1:=hP.below hb1
 have hMG:dj gs (a1,a2) (b1,b2)=dj gs (a1,a2) (b1,b2):=rfl
 have c0:=aa s0 0
 go_enter Tryz.func9,Tryz.ntmps9
 go_upto_region 1 with fail
 generalize ((w.alloc (.cells #[.slice p gs.length c] 28)).alloc (.cells #[.int .i64 a1,.int .i64 a2] 42)).alloc (.cells #[.int .i64 b1,.int .i64 b2] 42)=w1 at *
 go_wp2_with fail
 refine P1.check.mono ?_
 rintro e w2 ⟨rfl,hb2⟩
 have P2:=P1.below hb2
 have t0:=(hb2.block _ (ag s0)).trans s0
 have t1:=(hb2.block _ (ag s1)).trans s1
 have t2:=(hb2.block _ (ag s2)).trans s2
 have HB2:=hb1.trans (hb2.mono hb1.size)
 clear s0 s1 s2 hb2 hb1 P1 c0
 cases hS:aS gs
 ·simp only[u_,if_false]
  go_wp2_with fail
  all_goals go_ret2
  all_goals exact iq.none _ _ (by unfold dj;rw[if_neg (by rw[hS];exact uC)]) HB2
 ·simp only[if_true]
  have e0:=aa t0 0
  have e1:=aa t1 0
  have e2:=aa t1 1
  have e3:=aa t2 0
  have e4:=aa t2 1
  obtain⟨hl1,hl3⟩:=bf hS
  go_wp2_with fail
  have HMG:=uk hMG
  clear hMG
  have Z:w.heap.size+1+1<w2.heap.size:=ag t2
  go_loopw [22] (fun s22 wr=>∃ i:Nat,s22=.int .i64 i∧i≤2∧Below w2.heap.size w2 wr∧qU gs (a1,a2) (b1,b2) i) (fun s22 _=>2-(intOf s22).toNat)
  case atStart=>exact⟨0,rfl,by omega,Below.refl _ _,fun h=>by omega,fun h=>by omega⟩
  case round =>
   obtain⟨i,rfl,hi,hbr,hok⟩:=hrel
   have HOK:=uk hok
   clear hok
   by_cases hi2:i<2
   ·obtain⟨p1,p2,hidx,hpi⟩:∃ p1 p2:Int,(∀ W,(Instr.index 86 (.agg #[.int .i64 a1,.int .i64 a2,.int .i64 b1,.int .i64 b2]) (.int .i64 i)).run Tryz.prog W=.ok (.agg #[.int .i64 p1,.int .i64 p2]) W)∧Hid ((i=0→(a1,a2)=(p1,p2))∧(i=1→(b1,b2)=(p1,p2))):=by
     match i,hi2 with
     | 0,_=>exact⟨a1,a2,fun _=>by kernel_rfl,fun _=>rfl,fun h=>by omega⟩
     | 1,_=>exact⟨b1,b2,fun _=>by kernel_rfl,fun h=>by omega,fun _=>rfl⟩
    have hstep:cU gs (p1,p2)=true→qU gs (a1,a2) (b1,b2) (i+1):=fun h=>by
     refine⟨fun _=>?_,fun h2=>?_⟩
     ·by_cases h0:i=0
      ·rw[hpi.out.1 h0];exact h
      ·exact HOK.out.1 (by omega)
     ·rw[hpi.out.2 (by omega)];exact h
    have hbad:cU gs (p1,p2)=false→dj gs (a1,a2) (b1,b2)=([],2):=fun h=>by
     unfold dj
     rw[if_pos hS,if_neg]
     rintro⟨h1,_⟩
     simp only[uz] at h1
     by_cases h0:i=0
     ·have:=hpi.out.1 h0;rw[←this] at h;rw[h] at h1;exact absurd h1.1 (by decide)
     ·have:=hpi.out.2 (by omega);rw[←this] at h;rw[h] at h1;exact absurd h1.2 (by decide)
    have HST:=uk hstep
    have HBD:=uk hbad
    clear hstep hbad
    have hbx:Below w2.heap.size w2 (wr.alloc (.cells #[.int .i64 p1,.int .i64 p2] 42)):=hbr.alloc hbr.size _
    have x0:=af wr #[.int .i64 p1,.int .i64 p2] 42 0 _ rfl
    have x1:=af wr #[.int .i64 p1,.int .i64 p2] 42 1 _ rfl
    have hxl:wr.heap.size<(wr.alloc (.cells #[.int .i64 p1,.int .i64 p2] 42)).heap.size:=by simp
    go_upto_region 7 with fail
    generalize wr.alloc (.cells #[.int .i64 p1,.int .i64 p2] 42)=wx at *
    have f0:=(hbx.cell (p:=⟨w.heap.size,0,none⟩) (by show w.heap.size<_;omega)).trans e0
    have hPx:=P2.below hbx
    clear e0 e1 e2 e3 e4 hidx
    by_cases hw1:0≤p1∧p1≤(gs.length:Int)-1
    ·obtain⟨j,rfl⟩:∃ j:Nat,p1=(j:Int):=⟨p1.toNat,by omega⟩
     have hj:j<gs.length:=by omega
     obtain⟨bg,og,rfl,hbg,hcg⟩:=hPx.G.at_ (by omega)
     obtain⟨q1,c1,g1,g2,hR⟩:=hcg j hj
     have hra:ac gs j=gs[j].rungs:=by unfold ac;rw[uu hj]
     rw[←hra] at g2
     have hT1:=uk (dK hw1.1 hw1.2)
     have HJ:=uk hj
     have HW1:=uk hw1
     have hrl:(ac gs j).length≤1000000000000000:=by rw[hra];exact hPx.F.len _ (uH hj)
     clear hcg hra hR hw1
     by_cases hw2:0≤p2∧p2≤((ac gs j).length:Int)-1
     ·have hT2:=uk (dK hw2.1 hw2.2)
      have HW2:=uk hw2
      clear hw2
      go_quiet ((go_at_call 27;first | with_reducible exact aT (hT1.out _) | with_reducible exact aT (hT2.out _)))
      have hbq:=below_drewN hbx nq
      go_wp2_with fail
      go_roundw
      case rel=>exact⟨i+1,by go_num,by omega,hbq,HST.out (by unfold cU;simp[HW1.out,HW2.out])⟩
      case measure=>simp[intOf];omega
     ·have hT2:=uk (dJ hw2)
      have HW2:=uk hw2
      clear hw2
      go_quiet ((go_at_call 27;first | with_reducible exact aT (hT1.out _) | with_reducible exact aT (hT2.out _)))
      have hbq:=below_drewN hbx nq
      go_wp2_with fail
      go_ret2
      exact iq.none _ _ (HBD.out (by unfold cU;have:=HW2.out;simp;omega)) (HB2.trans (hbq.mono HB2.size))
    ·have hT1:=uk (dJ hw1)
     have HW1:=uk hw1
     clear hw1
     go_quiet ((go_at_call 27;with_reducible exact aT (hT1.out _)))
     have hbq:=below_drewN hbx nq
     go_wp2_with fail
     go_ret2
     exact iq.none _ _ (HBD.out (by unfold cU;have:=HW1.out;simp;omega)) (HB2.trans (hbq.mono HB2.size))
   ·have hie:i=2:=by omega
    subst hie
    have hoa:=HOK.out.1 (by omega)
    have hob:=HOK.out.2 (by omega)
    have hA:=hoa
    have hB:=hob
    unfold cU at hA hB
    simp only[uz,decide_eq_true_eq] at hA hB
    obtain⟨ga,rfl⟩:∃ ga:Nat,a1=ga:=⟨a1.toNat,by omega⟩
    obtain⟨gb,rfl⟩:∃ gb:Nat,b1=gb:=⟨b1.toNat,by omega⟩
    have hga:ga<3:=by omega
    have hgb:gb<3:=by omega
    have k0:=(hbr.block _ (ag t0)).trans t0
    have k1:=(hbr.block _ (ag t1)).trans t1
    have k2:=(hbr.block _ (ag t2)).trans t2
    have c0:=aa k0 0
    have d0:=aa k1 0
    have d1:=aa k2 0
    have HBR:=HB2.trans (hbr.mono HB2.size)
    have hPr:=P2.below hbr
    clear e0 e1 e2 e3 e4 hA hB t0 t1 t2 hbr
    by_cases hab:(ga:Int)=gb
    ·have hd:(((ga:Nat):Int) == ((gb:Nat):Int))=true:=by simp;omega
     have hmg:dj gs (ga,a2) (gb,b2)=([],2):=by
      unfold dj
      rw[if_pos hS,if_neg (fun h=>h.2 hab)]
     clear hab
     go_wp2_with fail
     go_ret2
     exact iq.none _ _ hmg HBR
    ·have hd:(((ga:Nat):Int) == ((gb:Nat):Int))=false:=by simp;omega
     have hmg:dj gs (ga,a2) (gb,b2)=(match a6 (ad gs) St.zero (fun _=>true) (nh (ga,a2) (gb,b2)) with | (some y,R)=>(iS R y,0) | (none,_)=>([],4)):=by
      unfold dj
      rw[if_pos hS,if_pos ⟨by rw[hoa,hob];rfl,hab⟩]
      simp only[uP]
     have HM:=uk hmg
     clear hab hmg hoa hob
     go_wp2_with fail
     refine (ki gs p c wr hPr.G hS).mono ?_
     rintro e w3 ⟨mB,vn,vb,mb,Nm,sm,f,rfl,hMP,hb3⟩
     have k1':=(hb3.block _ (ag k1)).trans k1
     have k2':=(hb3.block _ (ag k2)).trans k2
     go_wp2_with fail
     refine (kM gs p c vn vb mb Nm sm f w3 mB St.zero hMP (eo hS) hS (ar.At.zero (aI hS)) 28 29 #[] #[.pointer (some ⟨w.heap.size+1,0,none⟩),.pointer (some ⟨w.heap.size+1+1,0,none⟩)] (fun _=>true) (nh (ga,a2) (gb,b2)) (cO Tryz.func28 (by kernel_rfl) (by decide)) (cO Tryz.func29 (by kernel_rfl) (by decide))
      (fun w' _ v _=>jX v w') (fun w' hb' y _=>metN (ga,a2) (gb,b2) hga hgb (w.heap.size+1) (w.heap.size+1+1) w' (aa ((hb'.block _ (ag k1')).trans k1') 0) (aa ((hb'.block _ (ag k1')).trans k1') 1) (aa ((hb'.block _ (ag k2')).trans k2') 0) (aa ((hb'.block _ (ag k2')).trans k2') 1) y)).mono ?_
     rintro e w4 ⟨hb4,v4,mt,N,s,rfl,hT,hE,hmt⟩
     have hBz:=(HBR.trans (hb3.mono HBR.size)).trans (hb4.mono (uB HBR.size hb3.size))
     have hsz:=uB HBR.size hb3.size
     have hmg:=HM.out
     revert hT hE hmg
     generalize a6 (ad gs) St.zero (fun _=>true) (nh (ga,a2) (gb,b2))=res
     obtain⟨r1,R⟩:=res
     intro hT hE hmg
     cases r1 with
     | none =>
      simp only[wl]
      go_wp2_with fail
      go_ret2
      exact iq.none _ _ rfl hBz
     | some y =>
      simp only[wm]
      go_wp2_with fail
      go_ret2
      exact⟨_,rfl,d8 hE hsz,hBz⟩
end Go.Proofs.YtlkniohhalnjjaaGreatDoor
