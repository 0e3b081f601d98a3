/- Lemmas of this claim. -/
import Derived.Test.YtlkniohhalnjjaaGreatDoorKKno1
set_option linter.all false
set_option maxRecDepth 100000
set_option maxHeartbeats 8000000
namespace Go.Proofs.YtlkniohhalnjjaaGreatDoor
open Go.RowKit Dc Dg
theorem sq:(Tryz.prog.info? 58).map (fun i=>(i.zero,i.size,i.bytes))=some (some (.agg #[.string ⟨#[]⟩,.string ⟨#[]⟩,.string ⟨#[]⟩,.int .i64 0,.int .i64 0,.slice none 0 0,.slice none 0 0]),7,112):=by kernel_rfl
theorem tG:Tryz.prog.underlying 59=some (.slice 58):=by kernel_rfl
theorem pW {M:ar} (G:M.Good) {g k:Nat} (hg:g<M.n) (hk:k<M.rungs g):∃ b:Nat,M.back g k=(b:Int)∧b<M.rungs g:=by
 have h0:=G.back0 g k hg hk
 refine⟨(M.back g k).toNat,by omega,?_⟩
 rcases vC k with rfl | h
 ·have:=G.backz g hg
  omega
 ·have:=G.back g k hg hk h
  omega
def rgV (r:Rg) (q1:Option Addr) (c1:Nat) (q2:Option Addr) (c2:Nat):Array Value:=#[.string r.name,.string r.next,.string r.back,.int .i64 r.tries,.int .i64 r.minutes,.slice q1 r.needs.length c1,.slice q2 r.loops.length c2]
theorem rU {w:World}{o:Oper}{a:Act}{K:Act→World→Prop}{Q:Exit→Act→World→Prop} (s x:Operand) (ho:o.op=.call { callee:=.builtin .append,args:=#[s,x],argTypes:=#[59,59] })
  (n:Nat) (b1:Nat) (l1:List Value) (hs:a.eval s=.slice (some ⟨b1,0,none⟩) 1 1) (hr:w.ownsRow n 58 7 (.slice (some ⟨b1,0,none⟩) 1 1) 1 l1) (hn:n≤w.heap.size) (hb1:n≤b1) (b:Nat) (cs:Array Value) (hx:a.eval x=.slice (some ⟨b,0,none⟩) 1 1) (hb:w.heap[b]?=some (.cells cs 58 (0,0))) (hsz:cs.size=7) (hone:∀ u∈cs.toList,u.oneCell'=true)
  (h:∀ v' w',Below n w w'→K (a.put o.dst v') w'):o.wp Tryz.prog a w K Q:=by
 obtain⟨i0,hi,hz0,hz1,hz2⟩:=info_parts sq
 refine wp_append_lies w s x 59 ho n 58 i0 _ 7 112 tG hi hz0 hz1 hz2 rfl (by decide) _ 1 l1 hs hr ⟨b,0,none⟩ 1 1 cs.toList hx (by simp[hsz]) (fun j u hj=>?_) hone (by decide) (by unfold maxLen;omega) (by omega) hn _ rfl (fun g cap w' h1 h2 h3 h4=>?_)
 ·rw[cC,vh,aB hb j,←wB]
  exact hj
 ·exact h _ w' ((Below.refl n w).grown h2 hn (fun k hk=>by cases hk;exact hb1))
def UnsQ (w:World) (e:Ending) (w':World):Prop:=e=.returned (.tuple #[.agg #[.int .i64 0,.int .i64 0,.int .i64 0],.int .i64 4])∧Below w.heap.size w w'
theorem rK (gs:List Gd) (p:Option Addr) (c:Nat) (w:World) (hP:dM w p c gs) (hS:aS gs=true) (h0:∀ g k,g<gs.length→k<(ac gs g).length→(aP gs g k).loops=[]) :
  Calls Tryz.prog 16 #[.agg #[.slice p gs.length c],.slice none 0 0] w (UnsQ w):=by
 obtain⟨hn1,hn3⟩:=bf hS
 have HS:=uk hS
 have H0:=uk h0
 have hl:=sS w (.cells #[.slice p gs.length c] 28) (.cells #[.int .i64 0,.int .i64 0,.int .i64 0] 52)
 have HP:=uk hP
 clear hP hS h0
 go_enter Tryz.func16,Tryz.ntmps16
 go_upto_region 1 with fail
 have r0:=hl.s0
 have r1:=hl.s1
 have HB1:=hl.below
 clear hl
 generalize (w.alloc (.cells #[.slice p gs.length c] 28)).alloc (.cells #[.int .i64 0,.int .i64 0,.int .i64 0] 52)=w1 at *
 have x0:=aB r0 0
 go_wp2_with fail
 refine ((HP.out.below HB1).check).mono ?_
 rintro e w2 ⟨rfl,hb2⟩
 rw[HS.out,if_pos rfl]
 have HB2:=HB1.trans (hb2.mono HB1.size)
 have q0:=(hb2.block _ (ag r0)).trans r0
 have q1:=(hb2.block _ (ag r1)).trans r1
 clear hb2 r0 r1 HB1 x0
 have x0:=aB q0 0
 go_wp2_with fail
 go_loopw [7,35] (fun s7 s35 wx=>∃ i:Nat,s35=.int .i64 i∧s7=.int .i64 0∧i≤gs.length∧Below w2.heap.size w2 wx) (fun _ s35 _=>gs.length-(intOf s35).toNat)
 case atStart=>exact⟨0,rfl,rfl,by omega,Below.refl _ _⟩
 case round =>
  obtain⟨i,rfl,rfl,hi,hb⟩:=hrel
  by_cases hil:i<gs.length
  ·have hiI:(i:Int)<(gs.length:Int):=by omega
   have HB3:=HB2.trans (hb.mono HB2.size)
   obtain⟨bg,og,rfl,hbg,hcg⟩:=(HP.out.below HB3).G.at_ (by omega)
   obtain⟨q,cq,e0,e1,hR⟩:=hcg i hil
   have hra:ac gs i=gs[i].rungs:=by unfold ac;rw[uu hil]
   rw[←hra] at e1 hR
   obtain⟨nm,hnm⟩:∃ nm,nm=gs[i].name:=⟨_,rfl⟩
   rw[←hnm] at e0
   have HR:=uk hR
   have hl1:=iy wr (.cells #[.string nm,.slice q (ac gs i).length cq] 61)
   have g1:=aB hl1.s0 1
   have hba:=hl1.below
   have hr8:=(bD (aX HS.out hil)).2
   clear hcg hra hnm hR hl1
   go_wp2_with fail
   generalize wr.alloc (.cells #[.string nm,.slice q (ac gs i).length cq] 61)=wa at *
   have hb:=hb.trans (hba.mono hb.size)
   have HR:=uk (HR.out.below hba)
   go_loopw [7,42] (fun s7 s42 wx=>∃ k:Nat,s42=.int .i64 k∧s7=.int .i64 0∧k≤(ac gs i).length∧Below wa.heap.size wa wx) (fun _ s42 _=>(ac gs i).length-(intOf s42).toNat)
   case atStart=>exact⟨0,rfl,rfl,by omega,Below.refl _ _⟩
   case round =>
    obtain⟨k,rfl,rfl,hk,hb4⟩:=hrel
    by_cases hkl:k<(ac gs i).length
    ·have hkI:(k:Int)<((ac gs i).length:Int):=by omega
     obtain⟨b,o,rfl,hbw,hcs⟩:=(HR.out.below hb4).at_ (by omega)
     obtain⟨qa,da,qb,db,hr⟩:=hcs k hkl
     rw[←fj hkl] at hr
     have hlz:=H0.out i k hil hkl
     obtain⟨r,hre⟩:∃ r,r=aP gs i k:=⟨_,rfl⟩
     rw[←hre] at hr hlz
     have d0:=hr.d0;have d1:=hr.d1;have d2:=hr.d2;have d3:=hr.d3;have d4:=hr.d4;have d5:=hr.d5;have d6:=hr.d6
     rw[hlz] at d6
     have hbB:Below wr.heap.size wr (wr.alloc (.cells #[.string r.name,.string r.next,.string r.back,.int .i64 r.tries,.int .i64 r.minutes,.slice qa r.needs.length da,.slice qb ([]:List Cl).length db] 58)):=(Below.refl _ _).alloc (uo _) _
     have b6:=aB (heap_alloc_new wr (.cells #[.string r.name,.string r.next,.string r.back,.int .i64 r.tries,.int .i64 r.minutes,.slice qa r.needs.length da,.slice qb ([]:List Cl).length db] 58)) 6
     simp only[vu] at d6 hbB b6
     clear hcs hr hlz hre
     go_wp2_with fail
     generalize wr.alloc (.cells #[.string r.name,.string r.next,.string r.back,.int .i64 r.tries,.int .i64 r.minutes,.slice qa r.needs.length da,.slice qb 0 db] 58)=wb at *
     have hb4:=hb4.trans (hbB.mono hb4.size)
     clear d0 d1 d2 d3 d4 d5 d6 b6 hbB
     go_loopw [7,49] (fun s7 s49 wx=>s49=.int .i64 0∧s7=.int .i64 0∧Below wb.heap.size wb wx) (fun _ _ _=>0)
     case atStart=>exact⟨rfl,rfl,Below.refl _ _⟩
     case round =>
      obtain⟨rfl,rfl,hb5⟩:=hrel
      have hb4:=hb4.trans (hb5.mono hb4.size)
      go_wp2_with fail
      exact⟨⟨k+1,by first | rfl | go_num,rfl,by omega,hb4⟩,by simp[intOf];omega⟩
    ·obtain rfl:k=(ac gs i).length:=by omega
     have hb:=hb.trans (hb4.mono hb.size)
     clear hkl hk hb4
     go_wp2_with fail
     exact⟨⟨i+1,by first | rfl | go_num,rfl,by omega,hb⟩,by simp[intOf];omega⟩
  ·obtain rfl:i=gs.length:=by omega
   have HB3:=HB2.trans (hb.mono HB2.size)
   have r0:=(hb.block _ (ag q0)).trans q0
   have r1:=(hb.block _ (ag q1)).trans q1
   clear hi hil x0 q0 q1 hb
   go_wp2_with fail
   go_loopw [73] (fun s73 wx=>s73=.int .i64 0∧Below w.heap.size w wx∧wx.heap[w.heap.size]?=some (.cells #[.slice p gs.length c] 28 (0,0))∧wx.heap[w.heap.size+1]?=some (.cells #[.int .i64 0,.int .i64 0,.int .i64 0] 52 (0,0))) (fun _ _=>0)
   case atStart=>exact⟨rfl,HB3,r0,r1⟩
   case round =>
    clear HB3 r0 r1
    obtain⟨rfl,HB3,r0,r1⟩:=hrel
    have x0:=aB r0 0
    go_wp2_with fail
    refine (ki gs p c _ (HP.out.below HB3).G HS.out).mono ?_
    rintro e w5 ⟨m,vn,vb,mb,N,s,f,rfl,hM,hb5⟩
    have HB5:=HB3.trans (hb5.mono HB3.size)
    have q0:=(hb5.block _ (ag r0)).trans r0
    have q1:=(hb5.block _ (ag r1)).trans r1
    clear x0 r0 r1 hb5 HB3
    have x0:=aB q0 0
    go_wp2_with fail
    go_loopw [89] (fun s89 wx=>∃ i:Nat,s89=.int .i64 i∧i≤gs.length∧Below w5.heap.size w5 wx) (fun s89 _=>gs.length-(intOf s89).toNat)
    case atStart=>exact⟨0,rfl,by omega,Below.refl _ _⟩
    case round =>
     obtain⟨i,rfl,hi,hb⟩:=hrel
     by_cases hil:i<gs.length
     ·have hiI:(i:Int)<(gs.length:Int):=by omega
      have HB6:=HB5.trans (hb.mono HB5.size)
      obtain⟨bg,og,rfl,hbg,hcg⟩:=(HP.out.below HB6).G.at_ (by omega)
      obtain⟨q,cq,e0,e1,hR⟩:=hcg i hil
      have hra:ac gs i=gs[i].rungs:=by unfold ac;rw[uu hil]
      rw[←hra] at e1 hR
      obtain⟨nm,hnm⟩:∃ nm,nm=gs[i].name:=⟨_,rfl⟩
      rw[←hnm] at e0
      have HR:=uk hR
      have hl1:=iy wr (.cells #[.string nm,.slice q (ac gs i).length cq] 61)
      have g1:=hl1.s0
      have hba:=hl1.below
      have hr8:=(bD (aX HS.out hil)).2
      clear hcg hra hnm hR hl1
      have h1:=aB g1 1
      go_wp2_with fail
      clear h1 e0 e1
      generalize wr.alloc (.cells #[.string nm,.slice q (ac gs i).length cq] 61)=wa at *
      have hb:=hb.trans (hba.mono hb.size)
      have HR:=uk (HR.out.below hba)
      have HMa:=uk (hM.below hb)
      clear hba
      generalize wr.heap.size=gb at *
      go_loopw [97] (fun s97 wx=>∃ k:Nat,s97=.int .i64 k∧k≤(ac gs i).length∧Below wa.heap.size wa wx) (fun s97 _=>(ac gs i).length-(intOf s97).toNat)
      case atStart=>exact⟨0,rfl,by omega,Below.refl _ _⟩
      case round =>
       obtain⟨k,rfl,hk,hb4⟩:=hrel
       by_cases hkl:k<(ac gs i).length
       ·have hkI:(k:Int)<((ac gs i).length:Int):=by omega
        obtain⟨b,o,rfl,hbw,hcs⟩:=(HR.out.below hb4).at_ (by omega)
        obtain⟨qa,da,qb,db,hr⟩:=hcs k hkl
        obtain⟨kb,hkb,hkbl⟩:=pW (aI HS.out) (show i<(ad gs).n from hil) (show k<(ad gs).rungs i from hkl)
        have hkbl:kb<(ac gs i).length:=hkbl
        have hkbI:(kb:Int)<((ac gs i).length:Int):=by omega
        have hnx:=(aI HS.out).next i k hil hkl
        obtain⟨qa2,da2,qb2,db2,hr2⟩:=hcs kb hkbl
        rw[←fj hkl] at hr
        rw[←fj hkbl] at hr2
        have hlz:=H0.out i k hil hkl
        obtain⟨bn,on,cn0,bn2,on2,cn2,bb,ob,cb,bu,ou,cu,bv,ov,cv,br,orr,cr,hN⟩:=gR (HMa.out.below hb4) hil hkl
        have HCS:=uk hcs
        obtain⟨r,hre⟩:∃ r,r=aP gs i k:=⟨_,rfl⟩
        obtain⟨r2,hre2⟩:∃ r,r=aP gs i kb:=⟨_,rfl⟩
        rw[←hre] at hr hlz
        rw[←hre2] at hr2
        have d0:=hr.d0;have d1:=hr.d1;have d2:=hr.d2;have d3:=hr.d3;have d4:=hr.d4;have d5:=hr.d5;have d6:=hr.d6
        rw[hlz] at d6
        have hrb:=heap_alloc_new wr (.cells #[.string r.name,.string r.next,.string r.back,.int .i64 r.tries,.int .i64 r.minutes,.slice qa r.needs.length da,.slice qb 0 db] 58)
        have hbB:Below wr.heap.size wr (wr.alloc (.cells #[.string r.name,.string r.next,.string r.back,.int .i64 r.tries,.int .i64 r.minutes,.slice qa r.needs.length da,.slice qb 0 db] 58)):=(Below.refl _ _).alloc (uo _) _
        simp only[vu] at d6
        have HGB:=uk ((hb4.block _ (ag g1)).trans g1)
        clear hcs hr hlz hre hre2
        go_wp2_with fail
        have hb4:=hb4.trans (hbB.mono hb4.size)
        have hbw2:=uv hbw hbB.size
        have hN:=hN.below hbB
        have hr2:=hr2.below (uv (by assumption) (uo _)) hbB
        have g2:=(hbB.block _ (ag HGB.out)).trans HGB.out
        clear d0 d1 d2 d3 d4 d5 d6 HGB
        generalize wr.alloc (.cells #[.string r.name,.string r.next,.string r.back,.int .i64 r.tries,.int .i64 r.minutes,.slice qa r.needs.length da,.slice qb 0 db] 58)=wc at *
        have HCS:Hid (∀ (j:Nat) (hj:j<(ac gs i).length),∃ q1 c1 q2 c2,g9 wc b (o+j*7) (ac gs i)[j] q1 c1 q2 c2):=fun j hj=>by
         obtain⟨a1,a2,a3,a4,h⟩:=HCS.out j hj
         exact⟨a1,a2,a3,a4,h.below hbw hbB⟩
        clear hbB
        generalize wr.heap.size=rb at *
        have F0:∀ wy,Below wc.heap.size wc wy→wy.cell? ⟨gb,1,none⟩=some (.slice (some ⟨b,o,none⟩) (ac gs i).length cq):=fun wy hy=>aB ((hy.block _ (ag g2)).trans g2) 1
        have F1:∀ wy,Below wc.heap.size wc wy→wy.cell? ⟨m,2,none⟩=some (.slice (some ⟨bb,ob,none⟩) gs.length cb):=fun wy hy=>(hN.below hy).b0
        have F2:∀ wy,Below wc.heap.size wc wy→wy.cell? ⟨bb,ob+i,none⟩=some (.slice (some ⟨bv,ov,none⟩) (ac gs i).length cv):=fun wy hy=>(hN.below hy).b1
        have F3:∀ wy,Below wc.heap.size wc wy→wy.cell? ⟨bv,ov+k,none⟩=some (.int .i64 kb):=fun wy hy=>by rw[←hkb];exact (hN.below hy).b2
        have F4:∀ wy,Below wc.heap.size wc wy→g9 wy b (o+kb*7) r2 qa2 da2 qb2 db2:=fun wy hy=>hr2.below hbw2 hy
        have hS:Below wc.heap.size wc wc.drew:=below_drewN (Below.refl _ _) 1
        refine ax (fun wy:World=>Below wc.heap.size wc wy) (fun _=>false) (by kernel_rfl) ?_
        generalize wc.drew=wd at *
        refine ae (i:=0) (v:=?vv1) rfl (by kernel_rfl) (fun _ _ _ h=>h) rfl ?hy1 ?rest1
        case hy1=>(intro wy;go_simp;try with_reducible rfl)
        try simp only[Act.put,ut,uq,ur,uj,um,ul]
        refine ak (i:=1) (v:=?vvA) rfl (by kernel_rfl) (fun _ _ _ h=>h) rfl hS ?hyA ?restA
        case hyA =>
         intro wy hy
         have e0:=F0 wy hy
         clear hy
         go_simp
         try with_reducible rfl
        try simp only[Act.put,ut,uq,ur,uj,um,ul]
        refine ae (i:=2) (v:=?vv2) rfl (by kernel_rfl) (fun _ _ _ h=>h) rfl ?hy2 ?rest2
        case hy2=>(intro wy;go_simp;try with_reducible rfl)
        try simp only[Act.put,ut,uq,ur,uj,um,ul]
        refine ae (i:=3) (v:=?vv3) rfl (by kernel_rfl) (fun _ _ _ h=>h) rfl ?hy3 ?rest3
        case hy3=>(intro wy;go_simp;try with_reducible rfl)
        try simp only[Act.put,ut,uq,ur,uj,um,ul]
        refine ae (i:=4) (v:=?vv4) rfl (by kernel_rfl) (fun _ _ _ h=>h) rfl ?hy4 ?rest4
        case hy4=>(intro wy;go_simp;try with_reducible rfl)
        try simp only[Act.put,ut,uq,ur,uj,um,ul]
        refine ak (i:=5) (v:=?vvB) rfl (by kernel_rfl) (fun _ _ _ h=>h) rfl hS ?hyB ?restB
        case hyB =>
         intro wy hy
         have e0:=F1 wy hy
         clear hy
         go_simp
         try with_reducible rfl
        try simp only[Act.put,ut,uq,ur,uj,um,ul]
        refine ae (i:=6) (v:=?vv5) rfl (by kernel_rfl) (fun _ _ _ h=>h) rfl ?hy5 ?rest5
        case hy5=>(intro wy;go_simp;try with_reducible rfl)
        try simp only[Act.put,ut,uq,ur,uj,um,ul]
        refine ae (i:=7) (v:=?vv6) rfl (by kernel_rfl) (fun _ _ _ h=>h) rfl ?hy6 ?rest6
        case hy6=>(intro wy;go_simp;try with_reducible rfl)
        try simp only[Act.put,ut,uq,ur,uj,um,ul]
        refine ak (i:=8) (v:=?vvC) rfl (by kernel_rfl) (fun _ _ _ h=>h) rfl hS ?hyC ?restC
        case hyC =>
         intro wy hy
         have e0:=F2 wy hy
         clear hy
         go_simp
         try with_reducible rfl
        try simp only[Act.put,ut,uq,ur,uj,um,ul]
        refine ae (i:=9) (v:=?vv7) rfl (by kernel_rfl) (fun _ _ _ h=>h) rfl ?hy7 ?rest7
        case hy7=>(intro wy;go_simp;try with_reducible rfl)
        try simp only[Act.put,ut,uq,ur,uj,um,ul]
        refine ae (i:=10) (v:=?vv8) rfl (by kernel_rfl) (fun _ _ _ h=>h) rfl ?hy8 ?rest8
        case hy8=>(intro wy;go_simp;try with_reducible rfl)
        try simp only[Act.put,ut,uq,ur,uj,um,ul]
        refine ak (i:=11) (v:=?vvD) rfl (by kernel_rfl) (fun _ _ _ h=>h) rfl hS ?hyD ?restD
        case hyD =>
         intro wy hy
         have e0:=F3 wy hy
         clear hy
         go_simp
         try with_reducible rfl
        try simp only[Act.put,ut,uq,ur,uj,um,ul]
        refine ae (i:=12) (v:=?vv9) rfl (by kernel_rfl) (fun _ _ _ h=>h) rfl ?hy9 ?rest9
        case hy9=>(intro wy;go_simp;try with_reducible rfl)
        try simp only[Act.put,ut,uq,ur,uj,um,ul]
        refine ak (i:=13) (v:=?vvE) rfl (by kernel_rfl) (fun _ _ _ h=>h) rfl hS ?hyE ?restE
        case hyE =>
         intro wy hy
         have e:=F4 wy hy
         have e0:=e.d0;have e1:=e.d1;have e2:=e.d2;have e3:=e.d3;have e4:=e.d4;have e5:=e.d5;have e6:=e.d6
         clear hy e
         go_simp
         try with_reducible rfl
        try simp only[Act.put,ut,uq,ur,uj,um,ul]
        refine an (i:=14) rfl (by kernel_rfl) rfl (fun K hK=>?_)
        go_simp
        have hlf:=iy wd (.cells (rgV r2 qa2 da2 qb2 db2) 58)
        have hSf:=hS.trans (hlf.below.mono hS.size)
        have ow:=World.ownsRow_lit (base:=wc.heap.size) (e:=58) (size:=7) wd (rgV r2 qa2 da2 qb2 db2) 1 hS.size (by unfold maxLen;omega) rfl
        have hob:=hS.size
        refine hK _ _ (fun _ _=>hSf) ?_
        clear hK K
        try simp only[Act.put,ut,uq,ur,uj,um,ul]
        refine an (i:=15) rfl (by kernel_rfl) rfl (fun K hK=>?_)
        go_simp
        refine hK _ _ (fun _ h=>h) ?_
        clear hK K
        try simp only[Act.put,ut,uq,ur,uj,um,ul]
        refine aW (by kernel_rfl) ?_ _
        change (Exit.then _ _) _ _ (wd.alloc (.cells (rgV r2 qa2 da2 qb2 db2) 58))
        generalize wd.alloc (.cells (rgV r2 qa2 da2 qb2 db2) 58)=we at *
        generalize wd.heap.size=ob1 at *
        clear hlf F1 F2 F3 F4 hkb hr2 hkbI hS
        have NN:=hN.below hSf
        have n0:=NN.n0;have n1:=NN.n1;have n2:=NN.n2
        have rb6:=aB ((hSf.block _ (ag hrb)).trans hrb) 6
        have hb5:=hb4.trans (hSf.mono hb4.size)
        obtain⟨nx,hnx2⟩:∃ nx,nx=(ad gs).next i k:=⟨_,rfl⟩
        rw[←hnx2] at n2 hnx
        clear hN NN hnx2
        have f0:=F0 we hSf
        have hsz:=hSf.size
        by_cases hx:0≤nx
        ·obtain⟨nn,rfl⟩:∃ nn:Nat,nx=(nn:Int):=⟨nx.toNat,by omega⟩
         have hnn:nn<(ac gs i).length:=by have h:=hnx.2;have e:(ad gs).rungs i=(ac gs i).length:=rfl;omega
         have hnnI:(nn:Int)<((ac gs i).length:Int):=by omega
         obtain⟨qa3,da3,qb3,db3,hr3⟩:=HCS.out nn hnn
         rw[←fj hnn] at hr3
         obtain⟨r3,hre3⟩:∃ r,r=aP gs i nn:=⟨_,rfl⟩
         rw[←hre3] at hr3
         have hr3:=hr3.below hbw2 hSf
         have d0:=hr3.d0;have d1:=hr3.d1;have d2:=hr3.d2;have d3:=hr3.d3;have d4:=hr3.d4;have d5:=hr3.d5;have d6:=hr3.d6
         have lx:=iy we (.cells (rgV r3 qa3 da3 qb3 db3) 58)
         have ow:=uk (bc ow (fun j hj=>lx.below.block j (ap ow hj).2.1))
         have HX:=uk (And.intro lx.s0 (show wc.heap.size≤(we.alloc (.cells (rgV r3 qa3 da3 qb3 db3) 58)).heap.size from uB hsz lx.below.size))
         have hb6:=hb5.trans (lx.below.mono hb5.size)
         have rb7:=(lx.below.cell (p:=⟨rb,6,none⟩) (block_lt_of_cell rb6)).trans rb6
         have hd:decide (0≤(nn:Int))=true:=by simp
         have hone:Hid (∀ u∈(rgV r3 qa3 da3 qb3 db3).toList,u.oneCell'=true):=fun u hu=>by
          simp only[rgV,uy,ux,or_false] at hu
          rcases hu with rfl | rfl | rfl | rfl | rfl | rfl | rfl<;>rfl
         have hrlt:rb<wc.heap.size:=ag hrb
         clear hr3 lx hre3 hx
         go_wp2_with (at_builtin;refine wpList_plain rfl (fun K hK=>?_);refine rU _ _ rfl wc.heap.size ob1 _ rfl ow.out HX.out.2 hob we.heap.size (rgV r3 qa3 da3 qb3 db3) rfl HX.out.1 rfl hone.out ?_;intro v' w' hbx;have rb8:=(hbx.cell (p:=⟨rb,6,none⟩) hrlt).trans rb7;refine hK _ _ ?_;clear hK K)
         have hb7:=hb6.trans (hbx.mono hb4.size)
         go_loopw [140] (fun s140 wx=>s140=.int .i64 0∧Below wa.heap.size wa wx) (fun _ _=>0)
         case atStart=>exact⟨rfl,hb7⟩
         case round =>
          obtain⟨rfl,hb8⟩:=hrel
          go_wp2_with fail
          exact⟨⟨k+1,by first | rfl | go_num,by omega,hb8⟩,by simp[intOf];omega⟩
        ·have hd:decide (0≤nx)=false:=decide_eq_false hx
         clear hx
         go_wp2_with fail
         go_loopw [140] (fun s140 wx=>s140=.int .i64 0∧Below wa.heap.size wa wx) (fun _ _=>0)
         case atStart=>exact⟨rfl,hb5⟩
         case round =>
          obtain⟨rfl,hb8⟩:=hrel
          go_wp2_with fail
          exact⟨⟨k+1,by first | rfl | go_num,by omega,hb8⟩,by simp[intOf];omega⟩
       ·obtain rfl:k=(ac gs i).length:=by omega
        have hb:=hb.trans (hb4.mono hb.size)
        clear hkl hk hb4
        go_wp2_with fail
        exact⟨⟨i+1,by first | rfl | go_num,by omega,hb⟩,by simp[intOf];omega⟩
     ·obtain rfl:i=gs.length:=by omega
      have HB6:=HB5.trans (hb.mono HB5.size)
      have r1:=(hb.block _ (ag q1)).trans q1
      clear hi hil hb q1
      have u0:=aB r1 0
      have u1:=aB r1 1
      have u2:=aB r1 2
      have f0:=frozen_of_row wr (w.heap.size+1) 0 _ _ r1
      have f1:=frozen_of_row wr (w.heap.size+1) 1 _ _ r1
      have f2:=frozen_of_row wr (w.heap.size+1) 2 _ _ r1
      have e1:=heap_setCell_same wr (w.heap.size+1) 0 _ _ (Value.int .i64 0) r1
      have e2:=heap_setCell_same _ (w.heap.size+1) 1 _ _ (Value.int .i64 0) e1
      have e3:=heap_setCell_same _ (w.heap.size+1) 2 _ _ (Value.int .i64 0) e2
      have hB:=((HB6.setCell (p:=⟨w.heap.size+1,0,none⟩) (Nat.le_succ _) (Value.int .i64 0)).setCell (p:=⟨w.heap.size+1,1,none⟩) (Nat.le_succ _) (Value.int .i64 0)).setCell (p:=⟨w.heap.size+1,2,none⟩) (Nat.le_succ _) (Value.int .i64 0)
      go_wp2_with fail
      clear u0 u1 u2 f0 f1 f2 e1 e2
      generalize ((wr.setCell ⟨w.heap.size+1,0,none⟩ (.int .i64 0)).setCell ⟨w.heap.size+1,1,none⟩ (.int .i64 0)).setCell ⟨w.heap.size+1,2,none⟩ (.int .i64 0)=W at *
      have k0:W.cell? ⟨w.heap.size+1,0,none⟩=some (.int .i64 0):=aB e3 0
      have k1:W.cell? ⟨w.heap.size+1,1,none⟩=some (.int .i64 0):=aB e3 1
      have k2:W.cell? ⟨w.heap.size+1,2,none⟩=some (.int .i64 0):=aB e3 2
      refine bodyPost_ret (v:=.tuple #[.agg #[.int .i64 0,.int .i64 0,.int .i64 0],.int .i64 4]) (by simp[results,Tryz.results16,go_sem,k0,k1,k2]) rfl ?_
      exact⟨rfl,hB⟩
end Go.Proofs.YtlkniohhalnjjaaGreatDoor
