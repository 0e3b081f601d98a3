/-
  Texts of this claim: RA5, RA6, RA7.
-/
import Derived.Test.YtnkgbocdpngldaaGreatDoorYNev
import Derived.Test.YtnkgbocdpngldaaGreatDoorYRA4
import Derived.Test.YtnkgbocdpngldaaGreatDoorYA
set_option linter.unusedVariables false
set_option linter.unusedSimpArgs false
set_option maxRecDepth 100000
set_option maxHeartbeats 8000000

namespace Go.Proofs.YtnkgbocdpngldaaGreatDoor
open Go.RowKit Dc Dg
theorem fj {gs:List Gd} {i:Nat} (hi:i<gs.length) (h:d_ gs i=false):a8 gs=false:=by
 rw [←vf]
 unfold Ba
 rw [Eo]
 right
 rw [Ej]
 exact ⟨i,Dp.2 hi,by rw [h];exact Db⟩
theorem xh {gs:List Gd} (h1:1≤gs.length) (h3:gs.length≤3) (h:(List.range gs.length).all (d_ gs)=true):a8 gs=true:=by
 rw [←vf]
 unfold Ba
 rw [h,decide_eq_true h1,decide_eq_true h3];rfl
theorem tF {gs:List Gd} {i:Nat} (h:d_ gs i=true):(ag gs i).length≤8:=by
 unfold d_ at h
 simp only [C5,decide_eq_true_eq] at h
 exact h.1.1.2.2
theorem zZ {gs:List Gd} {f:Gd→Bool} {k:Nat} (hk:k<gs.length):(gs.take (k+1)).any f=((gs.take k).any f||f gs[k]):=by
 rw [Eb hk,Fi];simp
theorem xE {gs:List Gd} {f:Gd→Bool} {k i:Nat} (hk:k<gs.length) (hki:k<i) (h:f gs[k]=true):(gs.take i).any f=true:=by
 rw [Fc]
 refine ⟨gs[k],?_,h⟩
 rw [List.mem_take_iff_getElem]
 exact ⟨k,by omega,rfl⟩
theorem oT (gs:List Gd) (p:Option Addr) (c:Nat) (w:World) (hG:bh w p gs) (hX:Gx w) (hF:Aq gs) :
  Calls Tryz.prog 34 #[.agg #[.slice p gs.length c]] w (kU (a8 gs) 40 w):=by
 have S0:=CSt.new w gs p c hG hX
 have HF:=CX hF
 clear hG hX hF
 go_enter Tryz.func34,Tryz.ntmps34
 go_upto_region 1 with fail
 generalize w.alloc (.cells #[.slice p gs.length c] 24)=w0 at S0 ⊢
 have s0:=S0.s0
 go_wp2_with fail
 refine (lh _ 1 3 w0).mono ?_
 rintro e w1 ⟨rfl,hw1⟩
 obtain rfl:=hw1.symm
 clear s0
 by_cases hlen:1≤gs.length∧gs.length≤3
 ·have hbl:(decide ((1:Int)≤(gs.length:Int))&&decide ((gs.length:Int)≤3))=true:=by simp;omega
  rw [hbl]
  clear hbl
  obtain ⟨hl1,hl3⟩:=hlen
  go_wp2_with fail
  go_loopw [3] (fun s3 wx=>∃ i:Nat,s3=.int .i64 i∧i≤gs.length∧CSt w wx w.heap.size gs p c∧Hid ((List.range i).all (d_ gs)=true)) (fun s3 _=>gs.length-(intOf s3).toNat)
  case atStart=>exact ⟨0,rfl,by omega,S0,rfl⟩
  case round =>
   clear S0
   obtain ⟨i,rfl,hi,S,hx⟩:=hrel
   by_cases hil:i<gs.length
   ·obtain ⟨b,o,rfl,hbw,hcs⟩:=S.G.at_ (by omega)
    obtain ⟨q,cq,e0,e1,hR⟩:=hcs i hil
    obtain ⟨g,hge⟩:∃ g,g=gs[i]:=⟨_,rfl⟩
    rw [←hge] at e0 e1 hR
    have hgm:g∈gs:=by rw [hge];exact Df hil
    have hra:ag gs i=g.rungs:=by unfold ag;rw [C1 hil,hge]
    have hga:d9 gs i=g:=by unfold d9;rw [C1 hil,hge]
    have HRA:=CX hra
    have HGA:=CX hga
    have hrl:((g.rungs.length:Nat):Int)≤1000000000000000:=by have:=HF.out.len g hgm;omega
    have hl4:=bo wr (.cells #[.string g.name,.slice q g.rungs.length cq] 62)
    have s0:=S.s0
    have D2':DSt w (wr.alloc (.cells #[.string g.name,.slice q g.rungs.length cq] 62)) w.heap.size wr.heap.size gs (some ⟨b,o,none⟩) c g q cq:=⟨S.below hl4.below,aa hl4.s0 0,aa hl4.s0 1,by rw [hl4.size];omega,hR.below hl4.below⟩
    clear hge hcs hra hga hR hl4
    go_upto_region 7 with fail
    clear S e0 e1 s0
    generalize wr.alloc (.cells #[.string g.name,.slice q g.rungs.length cq] 62)=wa at *
    generalize wr.heap.size=kb at *
    have D2:=D2'
    clear D2'
    have t0:=D2.t0
    go_wp2_with fail
    refine (nh g.name wa).mono ?_
    rintro e w3 ⟨rfl,hw3⟩
    obtain rfl:=hw3.symm
    obtain ⟨bn,hbn⟩:∃ b,b=bB g.name.data.toList:=⟨_,rfl⟩
    rw [←hbn]
    have HBN:=CX hbn
    clear hbn t0
    cases bn
    ·have HGF:Hid (a8 gs=false):=fj hil (by unfold d_;rw [HGA.out,←HBN.out];rfl)
     go_wp2
     go_ret
     exact ⟨by rw [HGF.out];rfl,D2.C.bl⟩
    ·have t1:=D2.t1
     go_wp2_with fail
     refine (lh _ 1 8 wa).mono ?_
     rintro e w4 ⟨rfl,hw4⟩
     obtain rfl:=hw4.symm
     have hq:(decide ((1:Int)≤(g.rungs.length:Int))&&decide ((g.rungs.length:Int)≤8))=(decide (1≤(ag gs i).length)&&decide ((ag gs i).length≤8)):=by
      rw [HRA.out];congr 1<;>(rw [decide_eq_decide];omega)
     rw [hq]
     obtain ⟨bm,hbm⟩:∃ b,b=(decide (1≤(ag gs i).length)&&decide ((ag gs i).length≤8)):=⟨_,rfl⟩
     rw [←hbm]
     have HBM:=CX hbm
     clear hbm hq t1
     cases bm
     ·have HGF:Hid (a8 gs=false):=fj hil (by unfold d_;rw [←HBM.out];simp)
      go_wp2
      go_ret
      exact ⟨by rw [HGF.out];rfl,D2.C.bl⟩
     ·have hlen8:1≤(ag gs i).length∧(ag gs i).length≤8:=by
       have:=HBM.out
       have h2:=this.symm
       simp only [C5,decide_eq_true_eq] at h2
       exact h2
      have h8:g.rungs.length≤8:=by rw [←HRA.out];exact hlen8.2
      have HRS:=CX (show ∀ j,j≤i→(ag gs j).length<1000000 from fun j hj=>by
       rcases DN j i with h | h
       ·have:=tF (Dq.1 hx.out j (Dp.2 h));omega
       ·obtain rfl:j=i:=by omega
        omega)
      have HFI:=CX (show ∀ r∈ag gs i,mC r by rw [HRA.out];exact HF.out.rungs g hgm)
      clear hlen8
      go_wp2_with fail
      go_loopw [5] (fun s5 wx=>∃ k:Nat,s5=.int .i64 k∧k≤i∧DSt w wx w.heap.size kb gs (some ⟨b,o,none⟩) c g q cq∧Hid ((gs.take k).any (fun x=>decide (x.name.data.toList=(d9 gs i).name.data.toList))=false)) (fun s5 _=>i-(intOf s5).toNat)
      case atStart=>exact ⟨0,rfl,by omega,D2,rfl⟩
      case round =>
       clear D2
       obtain ⟨k,rfl,hk,D,hy⟩:=hrel
       by_cases hkl:k<i
       ·have hkg:k<gs.length:=by omega
        obtain ⟨b',o',e',hlt',hc'⟩:=D.C.G.at_ (by omega)
        obtain ⟨rfl,rfl⟩:b=b'∧o=o':=by simpa using e'
        obtain ⟨qk,ck,u0,_,_⟩:=hc' k hkg
        obtain ⟨gk,hgk⟩:∃ gk,gk=gs[k]:=⟨_,rfl⟩
        rw [←hgk] at u0
        have s0:=D.C.s0;have t0:=D.t0
        have hkI:(k:Int)<(gs.length:Int):=by omega
        by_cases heq:gk.name.data.toList=g.name.data.toList
        ·have z1:(gk.name.toList == g.name.toList)=true:=by rw [gr];simp [heq]
         have HGF:Hid (a8 gs=false):=fj hil (by
          have:ja gs i=true:=xE hkg hkl (by rw [HGA.out,←hgk];exact decide_eq_true heq)
          unfold d_;rw [this];simp)
         clear hgk heq hc' e'
         go_wp2_with fail
         go_quiet (fail)
         go_wp2
         go_ret
         exact ⟨by rw [HGF.out];rfl,(D.below (below_drewN (Below.refl _ _) _)).C.bl⟩
        ·have z1:(gk.name.toList == g.name.toList)=false:=by rw [gr];simp [heq]
         have HST:Hid ((gs.take (k+1)).any (fun x=>decide (x.name.data.toList=(d9 gs i).name.data.toList))=false):=by
          unfold Hid;rw [zZ hkg,hy.out,HGA.out,←hgk,decide_eq_false heq];rfl
         clear hgk heq hc' e'
         go_wp2_with fail
         go_quiet (fail)
         go_wp2
         go_roundw
         case rel=>exact ⟨k+1,by go_num,by omega,D.below (below_drewN (Below.refl _ _) _),HST⟩
         case measure=>simp [intOf];omega
       ·obtain rfl:k=i:=by omega
        have HTW:Hid (ja gs k=false):=hy.out
        clear hkl hk hy
        have t1:=D.t1
        go_wp2_with fail
        go_loopw [6] (fun s6 wx=>∃ m:Nat,s6=.int .i64 m∧m≤g.rungs.length∧DSt w wx w.heap.size kb gs (some ⟨b,o,none⟩) c g q cq∧Hid ((List.range m).all (fk gs k)=true)) (fun s6 _=>g.rungs.length-(intOf s6).toNat)
        case atStart=>exact ⟨0,rfl,by omega,D,rfl⟩
        case round =>
         clear D t1
         obtain ⟨m,rfl,hm,D,hy⟩:=hrel
         have t1:=D.t1
         by_cases hml:m<g.rungs.length
         ·have s0:=D.C.s0
          go_wp2_with fail
          refine (zK gs (some ⟨b,o,none⟩) c k m _ D.C.G D.C.gx hil (by rw [HRA.out];exact hml) (by omega) HRS.out HFI.out).mono ?_
          rintro e w4 ⟨rfl,hb4⟩
          have D4:=D.below hb4
          clear D hb4 s0 t1
          obtain ⟨bk,hbk⟩:∃ b,b=fk gs k m:=⟨_,rfl⟩
          rw [←hbk]
          have HBK:=CX hbk
          clear hbk
          cases bk
          ·have HGF:Hid (a8 gs=false):=fj hil (by
            have:wG gs k=false:=gV (by rw [HRA.out];exact hml) HBK.out.symm
            unfold d_;rw [this,Ep])
           go_wp2
           go_ret
           exact ⟨by rw [HGF.out];rfl,D4.C.bl⟩
          ·have HST:Hid ((List.range (m+1)).all (fk gs k)=true):=bC hy.out HBK.out.symm
           go_wp2
           go_roundw
           case rel=>exact ⟨m+1,by go_num,by omega,D4,HST⟩
           case measure=>simp [intOf];omega
         ·obtain rfl:m=g.rungs.length:=by omega
          have HGD:Hid ((List.range (k+1)).all (d_ gs)=true):=bC hx.out (by
           have:wG gs k=true:=by unfold wG;rw [HRA.out];exact hy.out
           unfold d_;rw [this,HTW.out,←HBM.out,HGA.out,←HBN.out];rfl)
          clear hml hm hy
          go_wp2
          go_roundw
          case rel=>exact ⟨k+1,by go_num,by omega,D.C,HGD⟩
          case measure=>simp [intOf];omega
   ·obtain rfl:i=gs.length:=by omega
    have HST:=CX (xh hl1 hl3 hx.out)
    have s0:=S.s0
    clear hil hi hx
    go_wp2
    go_ret
    exact ⟨by rw [HST.out];rfl,S.bl⟩
 ·have hbl:(decide ((1:Int)≤(gs.length:Int))&&decide ((gs.length:Int)≤3))=false:=by rw [D0];intro h;simp at h;omega
  rw [hbl]
  have HST:=CX (sM hlen)
  clear hbl hlen
  go_wp2
  go_ret
  exact ⟨by rw [HST.out];rfl,S0.bl⟩
end Go.Proofs.YtnkgbocdpngldaaGreatDoor

namespace Go.Proofs.YtnkgbocdpngldaaGreatDoor
open Go.RowKit Dc Dg
def zv (w:World) (b:Nat) (u0 u1 u2 u3 u4 u5 u6:Value):World :=
 ((((((w.setCell ⟨b,0,none⟩ u0).setCell ⟨b,1,none⟩ u1).setCell ⟨b,2,none⟩ u2).setCell ⟨b,3,none⟩ u3).setCell ⟨b,4,none⟩ u4).setCell ⟨b,5,none⟩ u5).setCell ⟨b,6,none⟩ u6
theorem wO {w:World} {b:Nat} {v0 v1 v2 v3 v4 v5 v6 u0 u1 u2 u3 u4 u5 u6:Value} {t:TypeId} (h:w.heap[b]?=some (.cells #[v0,v1,v2,v3,v4,v5,v6] t (0,0))):ez w (zv w b u0 u1 u2 u3 u4 u5 u6) b t #[u0,u1,u2,u3,u4,u5,u6]:=by
 have e0:(w.setCell ⟨b,0,none⟩ u0).heap[b]?=some (.cells #[u0,v1,v2,v3,v4,v5,v6] t (0,0)):=heap_setCell_same _ b 0 _ _ u0 h
 have e1:((w.setCell ⟨b,0,none⟩ u0).setCell ⟨b,1,none⟩ u1).heap[b]?=some (.cells #[u0,u1,v2,v3,v4,v5,v6] t (0,0)):=heap_setCell_same _ b 1 _ _ u1 e0
 have e2:(((w.setCell ⟨b,0,none⟩ u0).setCell ⟨b,1,none⟩ u1).setCell ⟨b,2,none⟩ u2).heap[b]?=some (.cells #[u0,u1,u2,v3,v4,v5,v6] t (0,0)):=heap_setCell_same _ b 2 _ _ u2 e1
 have e3:((((w.setCell ⟨b,0,none⟩ u0).setCell ⟨b,1,none⟩ u1).setCell ⟨b,2,none⟩ u2).setCell ⟨b,3,none⟩ u3).heap[b]?=some (.cells #[u0,u1,u2,u3,v4,v5,v6] t (0,0)):=heap_setCell_same _ b 3 _ _ u3 e2
 have e4:(((((w.setCell ⟨b,0,none⟩ u0).setCell ⟨b,1,none⟩ u1).setCell ⟨b,2,none⟩ u2).setCell ⟨b,3,none⟩ u3).setCell ⟨b,4,none⟩ u4).heap[b]?=some (.cells #[u0,u1,u2,u3,u4,v5,v6] t (0,0)):=heap_setCell_same _ b 4 _ _ u4 e3
 have e5:((((((w.setCell ⟨b,0,none⟩ u0).setCell ⟨b,1,none⟩ u1).setCell ⟨b,2,none⟩ u2).setCell ⟨b,3,none⟩ u3).setCell ⟨b,4,none⟩ u4).setCell ⟨b,5,none⟩ u5).heap[b]?=some (.cells #[u0,u1,u2,u3,u4,u5,v6] t (0,0)):=heap_setCell_same _ b 5 _ _ u5 e4
 have e6:(((((((w.setCell ⟨b,0,none⟩ u0).setCell ⟨b,1,none⟩ u1).setCell ⟨b,2,none⟩ u2).setCell ⟨b,3,none⟩ u3).setCell ⟨b,4,none⟩ u4).setCell ⟨b,5,none⟩ u5).setCell ⟨b,6,none⟩ u6).heap[b]?=some (.cells #[u0,u1,u2,u3,u4,u5,u6] t (0,0)):=heap_setCell_same _ b 6 _ _ u6 e5
 refine ⟨e6,fun k hk=>?_,by simp [zv,World.setCell],fun n hn=>?_⟩
 ·unfold zv
  rw [heap_setCell_other _ _ _ _ hk,heap_setCell_other _ _ _ _ hk,heap_setCell_other _ _ _ _ hk,heap_setCell_other _ _ _ _ hk,heap_setCell_other _ _ _ _ hk,heap_setCell_other _ _ _ _ hk,heap_setCell_other _ _ _ _ hk]
 ·exact (((((((Below.refl n w).setCell (p:=⟨b,0,none⟩) hn _).setCell (p:=⟨b,1,none⟩) hn _).setCell (p:=⟨b,2,none⟩) hn _).setCell (p:=⟨b,3,none⟩) hn _).setCell (p:=⟨b,4,none⟩) hn _).setCell (p:=⟨b,5,none⟩) hn _).setCell (p:=⟨b,6,none⟩) hn _
structure AtS (w:World) (k0 bg og n c g:Nat) (b o cq nr k ba oa na ca:Nat) (r:Rg) (q1:Option Addr) (c1:Nat) (q2:Option Addr) (c2:Nat):Prop where
 sy:w.cell? ⟨k0,0,none⟩=some (.slice (some ⟨bg,og,none⟩) n c)
 gu:w.cell? ⟨bg,og+g*2+1,none⟩=some (.slice (some ⟨b,o,none⟩) nr cq)
 st:w.cell? ⟨k0+1,0,none⟩=some (.slice (some ⟨ba,oa,none⟩) na ca)
 al:w.cell? ⟨ba,oa+g,none⟩=some (.int .i64 k)
 R:j5 w b (o+k*7) r q1 c1 q2 c2
theorem aY.get {w:World} {v:Value} {l:List Int} (h:aY w v l) {j:Nat} (hj:j<l.length):∃ b o c,v=.slice (some ⟨b,o,none⟩) l.length c∧b<w.heap.size∧w.cell? ⟨b,o+j,none⟩=some (.int .i64 l[j]):=by
 obtain ⟨p,c,rfl,hc⟩:=h.at_
 obtain ⟨b,o,rfl,hb,hc⟩:=hc (by omega)
 exact ⟨b,o,c,rfl,hb,hc j hj⟩
theorem Az (w:World) (bg og n c g b o cq nr k ba oa na ca:Nat) (pf:Option Addr) (nf cf:Nat) (r:Rg) (q1:Option Addr) (c1:Nat) (q2:Option Addr) (c2:Nat)
  (hg:g<n) (hk:k<nr) (hga:g<na) (hbg:bg<w.heap.size) (hb:b<w.heap.size) (hba:ba<w.heap.size)
  (h1:w.cell? ⟨bg,og+g*2+1,none⟩=some (.slice (some ⟨b,o,none⟩) nr cq)) (h2:w.cell? ⟨ba,oa+g,none⟩=some (.int .i64 k)) (hR:j5 w b (o+k*7) r q1 c1 q2 c2) :
  Calls Tryz.prog 79 #[.agg #[.slice (some ⟨bg,og,none⟩) n c],.agg #[.slice (some ⟨ba,oa,none⟩) na ca,.slice pf nf cf],.int .i64 g] w fun e w'=>e=.returned (.agg #[.string r.name,.string r.next,.string r.back,.int .i64 r.tries,.int .i64 r.minutes,.slice q1 r.needs.length c1,.slice q2 r.loops.length c2])∧Below w.heap.size w w':=by
 have hl:=ni w (.cells #[.slice (some ⟨bg,og,none⟩) n c] 24) (.cells #[.slice (some ⟨ba,oa,none⟩) na ca,.slice pf nf cf] 41) (.cells #[.string ⟨#[]⟩,.string ⟨#[]⟩,.string ⟨#[]⟩,.int .i64 0,.int .i64 0,.slice none 0 0,.slice none 0 0] 59)
 have hbd0:Below (((w.alloc (.cells #[.slice (some ⟨bg,og,none⟩) n c] 24)).alloc (.cells #[.slice (some ⟨ba,oa,none⟩) na ca,.slice pf nf cf] 41)).alloc (.cells #[.string ⟨#[]⟩,.string ⟨#[]⟩,.string ⟨#[]⟩,.int .i64 0,.int .i64 0,.slice none 0 0,.slice none 0 0] 59)).heap.size _ (((w.alloc (.cells #[.slice (some ⟨bg,og,none⟩) n c] 24)).alloc (.cells #[.slice (some ⟨ba,oa,none⟩) na ca,.slice pf nf cf] 41)).alloc (.cells #[.string ⟨#[]⟩,.string ⟨#[]⟩,.string ⟨#[]⟩,.int .i64 0,.int .i64 0,.slice none 0 0,.slice none 0 0] 59)).drew:=(Below.refl _ _).drew
 have hbd:=hl.below.trans (hbd0.mono hl.below.size)
 have hS:AtS (((w.alloc (.cells #[.slice (some ⟨bg,og,none⟩) n c] 24)).alloc (.cells #[.slice (some ⟨ba,oa,none⟩) na ca,.slice pf nf cf] 41)).alloc (.cells #[.string ⟨#[]⟩,.string ⟨#[]⟩,.string ⟨#[]⟩,.int .i64 0,.int .i64 0,.slice none 0 0,.slice none 0 0] 59)).drew w.heap.size bg og n c g b o cq nr k ba oa na ca r q1 c1 q2 c2 :=
  ⟨(hbd0.cell (p:=⟨_,_,none⟩) (ac hl.s0)).trans (aa hl.s0 0),(hbd.cell (p:=⟨_,_,none⟩) hbg).trans h1,(hbd0.cell (p:=⟨_,_,none⟩) (ac hl.s1)).trans (aa hl.s1 0),(hbd.cell (p:=⟨_,_,none⟩) hba).trans h2,hR.below hb hbd⟩
 have hr2:=(hbd0.block _ (ac hl.s2)).trans hl.s2
 have hnI:(g:Int)<(n:Int):=by omega
 have hkI:(k:Int)<(nr:Int):=by omega
 have haI:(g:Int)<(na:Int):=by omega
 clear hbd0 hl hR h1 h2
 go_enter Tryz.func79,Tryz.ntmps79
 go_upto_region 1 with fail
 generalize ((w.alloc (.cells #[.slice (some ⟨bg,og,none⟩) n c] 24)).alloc (.cells #[.slice (some ⟨ba,oa,none⟩) na ca,.slice pf nf cf] 41)).alloc (.cells #[.string ⟨#[]⟩,.string ⟨#[]⟩,.string ⟨#[]⟩,.int .i64 0,.int .i64 0,.slice none 0 0,.slice none 0 0] 59)=w1 at *
 refine wp_mono (aw (Q:=aJ _) (fun wx:World=>AtS wx w.heap.size bg og n c g b o cq nr k ba oa na ca r q1 c1 q2 c2) (fun i=>i == 13) (by kernel_rfl) ?_) (fun _ _ _ h=>aK h)
 generalize w1.drew=w2 at *
 refine ae (i:=0) (v:=?vv1) rfl (by kernel_rfl) (fun _ _ _ h=>h) rfl ?hy1 ?rest1
 case hy1=>(intro wy;go_simp;try with_reducible rfl)
 try simp only [Act.put,CY,CV,CW,CS,CU,CT]
 refine ae (i:=2) (v:=?vv2) rfl (by kernel_rfl) (fun _ _ _ h=>h) rfl ?hy2 ?rest2
 case hy2=>(intro wy;go_simp;try with_reducible rfl)
 try simp only [Act.put,CY,CV,CW,CS,CU,CT]
 refine ae (i:=6) (v:=?vv3) rfl (by kernel_rfl) (fun _ _ _ h=>h) rfl ?hy3 ?rest3
 case hy3=>(intro wy;go_simp;try with_reducible rfl)
 try simp only [Act.put,CY,CV,CW,CS,CU,CT]
 refine ae (i:=8) (v:=?vv4) rfl (by kernel_rfl) (fun _ _ _ h=>h) rfl ?hy4 ?rest4
 case hy4=>(intro wy;go_simp;try with_reducible rfl)
 try simp only [Act.put,CY,CV,CW,CS,CU,CT]
 refine am (i:=1) (v:=?vvA) rfl (by kernel_rfl) (fun _ _ _ h=>h) rfl hS ?hyA ?restA
 case hyA =>
  intro wy hy
  have e0:=hy.sy;have e1:=hy.gu;have e2:=hy.st;have e3:=hy.al
  have d0:=hy.R.d0;have d1:=hy.R.d1;have d2:=hy.R.d2;have d3:=hy.R.d3;have d4:=hy.R.d4;have d5:=hy.R.d5;have d6:=hy.R.d6
  clear hy
  go_simp
  try with_reducible rfl
 try simp only [Act.put,CY,CV,CW,CS,CU,CT]
 refine am (i:=7) (v:=?vvB) rfl (by kernel_rfl) (fun _ _ _ h=>h) rfl hS ?hyB ?restB
 case hyB =>
  intro wy hy
  have e0:=hy.sy;have e1:=hy.gu;have e2:=hy.st;have e3:=hy.al
  have d0:=hy.R.d0;have d1:=hy.R.d1;have d2:=hy.R.d2;have d3:=hy.R.d3;have d4:=hy.R.d4;have d5:=hy.R.d5;have d6:=hy.R.d6
  clear hy
  go_simp
  try with_reducible rfl
 try simp only [Act.put,CY,CV,CW,CS,CU,CT]
 refine ae (i:=3) (v:=?vv5) rfl (by kernel_rfl) (fun _ _ _ h=>h) rfl ?hy5 ?rest5
 case hy5=>(intro wy;go_simp;try with_reducible rfl)
 try simp only [Act.put,CY,CV,CW,CS,CU,CT]
 refine ae (i:=4) (v:=?vv6) rfl (by kernel_rfl) (fun _ _ _ h=>h) rfl ?hy6 ?rest6
 case hy6=>(intro wy;go_simp;try with_reducible rfl)
 try simp only [Act.put,CY,CV,CW,CS,CU,CT]
 refine am (i:=5) (v:=?vvC) rfl (by kernel_rfl) (fun _ _ _ h=>h) rfl hS ?hyC ?restC
 case hyC =>
  intro wy hy
  have e0:=hy.sy;have e1:=hy.gu;have e2:=hy.st;have e3:=hy.al
  have d0:=hy.R.d0;have d1:=hy.R.d1;have d2:=hy.R.d2;have d3:=hy.R.d3;have d4:=hy.R.d4;have d5:=hy.R.d5;have d6:=hy.R.d6
  clear hy
  go_simp
  try with_reducible rfl
 try simp only [Act.put,CY,CV,CW,CS,CU,CT]
 refine ae (i:=9) (v:=?vv7) rfl (by kernel_rfl) (fun _ _ _ h=>h) rfl ?hy7 ?rest7
 case hy7=>(intro wy;go_simp;try with_reducible rfl)
 try simp only [Act.put,CY,CV,CW,CS,CU,CT]
 refine am (i:=10) (v:=?vvD) rfl (by kernel_rfl) (fun _ _ _ h=>h) rfl hS ?hyD ?restD
 case hyD =>
  intro wy hy
  have e0:=hy.sy;have e1:=hy.gu;have e2:=hy.st;have e3:=hy.al
  have d0:=hy.R.d0;have d1:=hy.R.d1;have d2:=hy.R.d2;have d3:=hy.R.d3;have d4:=hy.R.d4;have d5:=hy.R.d5;have d6:=hy.R.d6
  clear hy
  go_simp
  try with_reducible rfl
 try simp only [Act.put,CY,CV,CW,CS,CU,CT]
 refine ae (i:=11) (v:=?vv8) rfl (by kernel_rfl) (fun _ _ _ h=>h) rfl ?hy8 ?rest8
 case hy8=>(intro wy;go_simp;try with_reducible rfl)
 try simp only [Act.put,CY,CV,CW,CS,CU,CT]
 refine am (i:=12) (v:=?vvE) rfl (by kernel_rfl) (fun _ _ _ h=>h) rfl hS ?hyE ?restE
 case hyE =>
  intro wy hy
  have e0:=hy.sy;have e1:=hy.gu;have e2:=hy.st;have e3:=hy.al
  have d0:=hy.R.d0;have d1:=hy.R.d1;have d2:=hy.R.d2;have d3:=hy.R.d3;have d4:=hy.R.d4;have d5:=hy.R.d5;have d6:=hy.R.d6
  clear hy
  go_simp
  try with_reducible rfl
 try simp only [Act.put,CY,CV,CW,CS,CU,CT]
 clear hS
 have hP:ez w2 (zv w2 (w.heap.size+1+1) (.string r.name) (.string r.next) (.string r.back) (.int .i64 r.tries) (.int .i64 r.minutes) (.slice q1 r.needs.length c1) (.slice q2 r.loops.length c2)) (w.heap.size+1+1) _ #[.string r.name,.string r.next,.string r.back,.int .i64 r.tries,.int .i64 r.minutes,.slice q1 r.needs.length c1,.slice q2 r.loops.length c2]:=wO hr2
 have hB:=hbd.trans (hP.below w.heap.size (by omega))
 have z0:=aa hr2 0
 have z1:=aa hr2 1
 have z2:=aa hr2 2
 have z3:=aa hr2 3
 have z4:=aa hr2 4
 have z5:=aa hr2 5
 have z6:=aa hr2 6
 have f0:=frozen_of_row w2 (w.heap.size+1+1) 0 _ _ hr2
 have f1:=frozen_of_row w2 (w.heap.size+1+1) 1 _ _ hr2
 have f2:=frozen_of_row w2 (w.heap.size+1+1) 2 _ _ hr2
 have f3:=frozen_of_row w2 (w.heap.size+1+1) 3 _ _ hr2
 have f4:=frozen_of_row w2 (w.heap.size+1+1) 4 _ _ hr2
 have f5:=frozen_of_row w2 (w.heap.size+1+1) 5 _ _ hr2
 have f6:=frozen_of_row w2 (w.heap.size+1+1) 6 _ _ hr2
 refine ak (i:=13) rfl (by kernel_rfl) rfl (fun K hK=>?_)
 go_simp
 change K _ (zv w2 (w.heap.size+1+1) (.string r.name) (.string r.next) (.string r.back) (.int .i64 r.tries) (.int .i64 r.minutes) (.slice q1 r.needs.length c1) (.slice q2 r.loops.length c2))
 refine hK _ _ (fun h=>by cases h) ?_
 clear hK K z0 f0 z1 f1 z2 f2 z3 f3 z4 f4 z5 f5 z6 f6
 try simp only [Act.put,CY,CV,CW,CS,CU,CT]
 refine aA (by kernel_rfl) ?_ _
 simp only [aJ]
 go_wp2_with fail
 (try simp only [Exit.inBlock,Exit.then])
 refine bodyPost_ret (results_cell_row rfl _ _ (w.heap.size+1+1) _ _ (0,0) _ rfl hP.row Tryz.underlying59 rfl (by kernel_rfl)) rfl ?_
 exact ⟨rfl,hB⟩
theorem aY.at? {w:World} {p:Option Addr} {n c:Nat} {l:List Int} (h:aY w (.slice p n c) l) {j:Nat} {z:Int} (hj:l[j]?=some z):∃ b o,p=some ⟨b,o,none⟩∧n=l.length∧j<n∧b<w.heap.size∧w.cell? ⟨b,o+j,none⟩=some (.int .i64 z):=by
 obtain ⟨hjl,rfl⟩:=C4.1 hj
 obtain ⟨b,o,c',e,hb,hc⟩:=h.get hjl
 simp only [Value.slice.injEq] at e
 obtain ⟨rfl,rfl,rfl⟩:=e
 exact ⟨b,o,rfl,rfl,hjl,hb,hc⟩
theorem aY.len {w:World} {p:Option Addr} {n c:Nat} {l:List Int} (h:aY w (.slice p n c) l):n=l.length:=by
 obtain ⟨p',c',e,_⟩:=h.at_
 simp only [Value.slice.injEq] at e
 exact e.2.1
theorem BF {gs:List Gd} {p pa pf:Option Addr} {c na ca nf cf:Nat} {al:List Int} {w:World} (hG:bh w p gs) (hA:aY w (.slice pa na ca) al) {g k:Nat} (hg:g<gs.length) (hal:al[g]?=some (k:Int)) (hk:k<(ag gs g).length) :
  ∃ q1 c1 q2 c2,eW w q1 (aS gs g k).needs∧fW w q2 (aS gs g k).loops∧∀ x:World,Below w.heap.size w x→Calls Tryz.prog 79 #[.agg #[.slice p gs.length c],.agg #[.slice pa na ca,.slice pf nf cf],.int .i64 g] x fun e w'=>e=.returned (.agg #[.string (aS gs g k).name,.string (aS gs g k).next,.string (aS gs g k).back,.int .i64 (aS gs g k).tries,.int .i64 (aS gs g k).minutes,.slice q1 (aS gs g k).needs.length c1,.slice q2 (aS gs g k).loops.length c2])∧Below x.heap.size x w':=by
 obtain ⟨bg,og,rfl,hbg,hcg⟩:=hG.at_ (by omega)
 obtain ⟨q,cq,e0,e1,hR⟩:=hcg g hg
 have hra:ag gs g=gs[g].rungs:=by unfold ag;rw [C1 hg]
 rw [←hra] at e1 hR
 obtain ⟨b,o,rfl,hb,hcs⟩:=hR.at_ (by omega)
 obtain ⟨q1,c1,q2,c2,hr⟩:=hcs _ hk
 rw [←nN hk] at hr
 obtain ⟨ba,oa,rfl,hna,hgn,hba,hca⟩:=hA.at? hal
 refine ⟨q1,c1,q2,c2,hr.n,hr.l,fun x hx=>?_⟩
 exact Az x bg og gs.length c g b o cq _ _ ba oa na ca pf nf cf _ q1 c1 q2 c2 hg hk hgn (C2 hbg hx.size) (C2 hb hx.size) (C2 hba hx.size) ((hx.cell (p:=⟨bg,_,none⟩) hbg).trans e1) ((hx.cell (p:=⟨ba,_,none⟩) hba).trans hca) (hr.below hb hx)
theorem uy {gs:List Gd} {y:St} (hS:a8 gs=true) (hy:(ai gs).At y) {g:Nat} (hg:g<gs.length):(atL gs.length y)[g]?=some (((y.a g).toNat:Nat):Int)∧(y.a g).toNat<(ag gs g).length:=by
 have ha:=hy.a g hg
 have hM:(ai gs).rungs g=(ag gs g).length:=rfl
 rw [j9 (bV hS).2 y hg]
 exact ⟨by rw [EI ha.1],by omega⟩
theorem pR {gs:List Gd} {p pa pf:Option Addr} {c na ca nf cf:Nat} {y:St} {w:World} (hG:bh w p gs) (hA:aY w (.slice pa na ca) (atL gs.length y)) (hS:a8 gs=true) (hy:(ai gs).At y) {g:Nat} (hg:g<gs.length) :
  ∃ q1 c1 q2 c2,eW w q1 (aS gs g (y.a g).toNat).needs∧fW w q2 (aS gs g (y.a g).toNat).loops∧∀ x:World,Below w.heap.size w x→Calls Tryz.prog 79 #[.agg #[.slice p gs.length c],.agg #[.slice pa na ca,.slice pf nf cf],.int .i64 g] x fun e w'=>e=.returned (.agg #[.string (aS gs g (y.a g).toNat).name,.string (aS gs g (y.a g).toNat).next,.string (aS gs g (y.a g).toNat).back,.int .i64 (aS gs g (y.a g).toNat).tries,.int .i64 (aS gs g (y.a g).toNat).minutes,.slice q1 (aS gs g (y.a g).toNat).needs.length c1,.slice q2 (aS gs g (y.a g).toNat).loops.length c2])∧Below x.heap.size x w' :=
 BF hG hA hg (uy hS hy hg).1 (uy hS hy hg).2
end Go.Proofs.YtnkgbocdpngldaaGreatDoor

namespace Go.Proofs.YtnkgbocdpngldaaGreatDoor
open Go.RowKit Dc Dg
theorem vT (w:World) (a b d:ByteArray) (t m:Int) (q1:Option Addr) (n1 c1:Nat) (q2:Option Addr) (n2 c2:Nat):(Instr.field 59 (.agg #[.string a,.string b,.string d,.int .i64 t,.int .i64 m,.slice q1 n1 c1,.slice q2 n2 c2]) 0).run Tryz.prog w=.ok (.string a) w:=by kernel_rfl
theorem vU (w:World) (a b d:ByteArray) (t m:Int) (q1:Option Addr) (n1 c1:Nat) (q2:Option Addr) (n2 c2:Nat):(Instr.field 59 (.agg #[.string a,.string b,.string d,.int .i64 t,.int .i64 m,.slice q1 n1 c1,.slice q2 n2 c2]) 2).run Tryz.prog w=.ok (.string d) w:=by kernel_rfl
def pj (gs:List Gd) (y:St) (n:Nd):Bool:=(gD gs n).2.contains (y.a (gD gs n).1)
theorem yA (gs:List Gd) (y:St) (g:Nat):eA (ai gs) y g=(aS gs g (y.a g).toNat).needs.all (pj gs y):=by
 show ((aS gs g (y.a g).toNat).needs.map (gD gs)).all _=_
 rw [List.all_map]
 rfl
theorem ua {gs:List Gd} (hS:a8 gs=true) {g k:Nat} (hg:g<gs.length) (hk:k<(ag gs g).length):aH (ag gs g) (aS gs g k).name.data.toList=(k:Int):=by
 have h:=eC (bE hS hg) hk
 unfold bO cS at h
 simp only [C5,decide_eq_true_eq] at h
 exact h.1.1.1.1.1.2
theorem wE {gs:List Gd} {y:St} {g k:Nat} (hS:a8 gs=true) (hy:(ai gs).At y) (hg:g<gs.length) (hk:k<(aS gs g (y.a g).toNat).needs.length) :
  ∃ q:Nat,(aS gs g (y.a g).toNat).needs[k].guard=(q:Int)∧q<gs.length∧(aS gs g (y.a g).toNat).needs[k].rungs.length≤8∧decide (dm (aS gs g (y.a g).toNat).needs[k].rungs (aS gs q (y.a q).toNat).name.data.toList 0<0)=!pj gs y (aS gs g (y.a g).toNat).needs[k]:=by
 have ha:=hy.a g hg
 have hM:(ai gs).rungs g=(ag gs g).length:=rfl
 obtain ⟨_,hf⟩:=kK hS hg (show (y.a g).toNat<(ag gs g).length by omega)
 obtain ⟨f1,f2,f3⟩:=hf k hk
 obtain ⟨q,hq⟩:∃ q:Nat,(aS gs g (y.a g).toNat).needs[k].guard=(q:Int):=⟨(aS gs g (y.a g).toNat).needs[k].guard.toNat,by omega⟩
 have hqg:q<gs.length:=by omega
 have haq:=hy.a q hqg
 have hMq:(ai gs).rungs q=(ag gs q).length:=rfl
 refine ⟨q,hq,hqg,f3,?_⟩
 rw [kR]
 congr 1
 obtain ⟨j,hj⟩:∃ j:Nat,y.a q=(j:Int):=⟨(y.a q).toNat,by omega⟩
 have hself:=ua hS hqg (show j<(ag gs q).length by omega)
 unfold pj gD
 simp only [hq,Dm,hj]
 rw [D5,Fc,List.contains_iff_mem,DA]
 constructor
 ·rintro ⟨s,hs,he⟩
  have he:=of_decide_eq_true he
  exact ⟨s,hs,by rw [he,hself]⟩
 ·rintro ⟨s,hs,he⟩
  obtain ⟨h3,h4⟩:=nO he
  exact ⟨s,hs,decide_eq_true (by rw [nN h3,h4])⟩
theorem zY {α:Type} {l:List α} {f:α→Bool} {i:Nat} (hi:i<l.length) (h:(l.take i).all f=true) (h2:f l[i]=true):(l.take (i+1)).all f=true:=by
 rw [DC,C1 hi,Er,h]
 simpa using h2
theorem Aw {α:Type} {l:List α} {f:α→Bool} {i:Nat} (hi:i<l.length) (h2:f l[i]=false):l.all f=false:=by
 rw [Ej]
 exact ⟨l[i],Df hi,by rw [h2];exact Db⟩
structure SB (w0 w:World) (k0:Nat) (gs:List Gd) (p:Option Addr) (c:Nat) (pa:Option Addr) (na ca:Nat) (pf:Option Addr) (nf cf:Nat) (al fl:List Int):Prop where
 s0:w.heap[k0]?=some (.cells #[.slice p gs.length c] 24 (0,0))
 s1:w.heap[k0+1]?=some (.cells #[.slice pa na ca,.slice pf nf cf] 41 (0,0))
 P:fL w p c gs
 ia:aY w (.slice pa na ca) al
 jf:aY w (.slice pf nf cf) fl
 bl:Below w0.heap.size w0 w
theorem SB.below {w0 w w':World} {k0:Nat} {gs:List Gd} {p:Option Addr} {c:Nat} {pa:Option Addr} {na ca:Nat} {pf:Option Addr} {nf cf:Nat} {al fl:List Int} (h:SB w0 w k0 gs p c pa na ca pf nf cf al fl) (hb:Below w.heap.size w w'):SB w0 w' k0 gs p c pa na ca pf nf cf al fl :=
 ⟨(hb.block _ (ac h.s0)).trans h.s0,(hb.block _ (ac h.s1)).trans h.s1,h.P.below hb,h.ia.below hb,h.jf.below hb,h.bl.trans (hb.mono h.bl.size)⟩
theorem SB.new {w:World} {gs:List Gd} {p:Option Addr} {c:Nat} {pa:Option Addr} {na ca:Nat} {pf:Option Addr} {nf cf:Nat} {al fl:List Int} (hP:fL w p c gs) (hA:aY w (.slice pa na ca) al) (hF:aY w (.slice pf nf cf) fl) :
  SB w ((w.alloc (.cells #[.slice p gs.length c] 24)).alloc (.cells #[.slice pa na ca,.slice pf nf cf] 41)) w.heap.size gs p c pa na ca pf nf cf al fl:=by
 have h:=iN w (.cells #[.slice p gs.length c] 24) (.cells #[.slice pa na ca,.slice pf nf cf] 41)
 exact ⟨h.s0,h.s1,hP.below h.below,hA.below h.below,hF.below h.below,h.below⟩
theorem SB.c0 {w0 w:World} {k0:Nat} {gs:List Gd} {p:Option Addr} {c:Nat} {pa:Option Addr} {na ca:Nat} {pf:Option Addr} {nf cf:Nat} {al fl:List Int} (h:SB w0 w k0 gs p c pa na ca pf nf cf al fl):w.cell? ⟨k0,0,none⟩=some (.slice p gs.length c):=aa h.s0 0
theorem SB.c1 {w0 w:World} {k0:Nat} {gs:List Gd} {p:Option Addr} {c:Nat} {pa:Option Addr} {na ca:Nat} {pf:Option Addr} {nf cf:Nat} {al fl:List Int} (h:SB w0 w k0 gs p c pa na ca pf nf cf al fl):w.cell? ⟨k0+1,0,none⟩=some (.slice pa na ca):=aa h.s1 0
theorem SB.c2 {w0 w:World} {k0:Nat} {gs:List Gd} {p:Option Addr} {c:Nat} {pa:Option Addr} {na ca:Nat} {pf:Option Addr} {nf cf:Nat} {al fl:List Int} (h:SB w0 w k0 gs p c pa na ca pf nf cf al fl):w.cell? ⟨k0+1,1,none⟩=some (.slice pf nf cf):=aa h.s1 1
structure SBr (w0 w:World) (k0:Nat) (gs:List Gd) (p:Option Addr) (c:Nat) (pa:Option Addr) (na ca:Nat) (pf:Option Addr) (nf cf:Nat) (al fl:List Int) (kr:Nat) (r:Rg) (q1:Option Addr) (c1:Nat) (q2:Option Addr) (c2:Nat):Prop where
 B:SB w0 w k0 gs p c pa na ca pf nf cf al fl
 rr:w.heap[kr]?=some (.cells #[.string r.name,.string r.next,.string r.back,.int .i64 r.tries,.int .i64 r.minutes,.slice q1 r.needs.length c1,.slice q2 r.loops.length c2] 59 (0,0))
 N:eW w q1 r.needs
theorem SBr.below {w0 w w':World} {k0:Nat} {gs:List Gd} {p:Option Addr} {c:Nat} {pa:Option Addr} {na ca:Nat} {pf:Option Addr} {nf cf:Nat} {al fl:List Int} {kr:Nat} {r:Rg} {q1:Option Addr} {c1:Nat} {q2:Option Addr} {c2:Nat} (h:SBr w0 w k0 gs p c pa na ca pf nf cf al fl kr r q1 c1 q2 c2) (hb:Below w.heap.size w w'):SBr w0 w' k0 gs p c pa na ca pf nf cf al fl kr r q1 c1 q2 c2 :=
 ⟨h.B.below hb,(hb.block _ (ac h.rr)).trans h.rr,h.N.below hb⟩
theorem yB (gs:List Gd) (p:Option Addr) (c:Nat) (pa:Option Addr) (na ca:Nat) (pf:Option Addr) (nf cf:Nat) (y:St) (fl:List Int) (g:Nat) (w:World) (hP:fL w p c gs) (hA:aY w (.slice pa na ca) (atL gs.length y)) (hF:aY w (.slice pf nf cf) fl) (hS:a8 gs=true) (hy:(ai gs).At y) (hg:g<gs.length) :
  Calls Tryz.prog 96 #[.agg #[.slice p gs.length c],.agg #[.slice pa na ca,.slice pf nf cf],.int .i64 g] w fun e w'=>e=.returned (.bool (eA (ai gs) y g))∧Below w.heap.size w w':=by
 have S0:=SB.new hP hA hF
 obtain ⟨q1,c1,q2,c2,hN,_,HC⟩:=pR (pf:=pf) (nf:=nf) (cf:=cf) (c:=c) S0.P.G S0.ia hS hy hg
 have HA:=CX (yA gs y g)
 have HW:=CX (fun k hk=>wE (k:=k) hS hy hg hk)
 have HC:=CX HC
 have HSy:=CX (And.intro hS hy)
 obtain ⟨n3,_⟩:=kK hS hg (show (y.a g).toNat<(ag gs g).length by have h1:=hy.a g hg;have h2:(ai gs).rungs g=(ag gs g).length:=rfl;omega)
 clear hP hA hF hS hy
 generalize aS gs g (y.a g).toNat=r at *
 go_enter Tryz.func96,Tryz.ntmps96
 go_upto_region 1 with fail
 generalize (w.alloc (.cells #[.slice p gs.length c] 24)).alloc (.cells #[.slice pa na ca,.slice pf nf cf] 41)=w1 at *
 have x0:=S0.c0;have x1:=S0.c1;have x2:=S0.c2
 go_wp2_with fail
 refine (HC.out w1 (Below.refl _ _)).mono ?_
 rintro e w2 ⟨rfl,hb2⟩
 have S2:=S0.below hb2
 have N2:=hN.below hb2
 have l3:=bo w2 (.cells #[.string r.name,.string r.next,.string r.back,.int .i64 r.tries,.int .i64 r.minutes,.slice q1 r.needs.length c1,.slice q2 r.loops.length c2] 59)
 have S3:SBr w (w2.alloc (.cells #[.string r.name,.string r.next,.string r.back,.int .i64 r.tries,.int .i64 r.minutes,.slice q1 r.needs.length c1,.slice q2 r.loops.length c2] 59)) w.heap.size gs p c pa na ca pf nf cf (atL gs.length y) fl w2.heap.size r q1 c1 q2 c2:=⟨S2.below l3.below,l3.s0,N2.below l3.below⟩
 clear S0 S2 hN N2 HC hb2 l3 x0 x1 x2
 go_upto_region 2 with fail
 generalize w2.alloc (.cells #[.string r.name,.string r.next,.string r.back,.int .i64 r.tries,.int .i64 r.minutes,.slice q1 r.needs.length c1,.slice q2 r.loops.length c2] 59)=w3 at *
 generalize w2.heap.size=kr at *
 go_wp2_with fail
 go_loopw [8] (fun s8 wx=>∃ j:Nat,s8=.int .i64 j∧j≤r.needs.length∧SBr w wx w.heap.size gs p c pa na ca pf nf cf (atL gs.length y) fl kr r q1 c1 q2 c2∧Hid ((r.needs.take j).all (pj gs y)=true)) (fun s8 _=>r.needs.length-(intOf s8).toNat)
 case atStart=>exact ⟨0,rfl,by omega,S3,rfl⟩
 case round =>
  clear S3
  obtain ⟨j,rfl,hj,S3,hx⟩:=hrel
  have r5:wr.cell? ⟨kr,5,none⟩=some (.slice q1 r.needs.length c1):=aa S3.rr 5
  by_cases hjl:j<r.needs.length
  ·obtain ⟨nb,no,rfl,hnb,hnc⟩:=S3.N.at_ (by omega)
   obtain ⟨qn,cn,m0,m1,hWn⟩:=hnc j hjl
   obtain ⟨q,hq,hqg,h8,hwd⟩:=HW.out j hjl
   obtain ⟨nd,hnd⟩:∃ nd,nd=r.needs[j]:=⟨_,rfl⟩
   rw [←hnd] at m0 m1 hWn hq h8 hwd
   rw [hq] at m0
   have HND:=CX hnd
   clear hnd hnc
   have hl4:=bo wr (.cells #[.int .i64 q,.slice qn nd.rungs.length cn] 65)
   have S4:=S3.below hl4.below
   have HW4:=CX (hWn.below hl4.below)
   have hrA:=hl4.s0
   obtain ⟨q1',c1',q2',c2',_,_,HC⟩:=pR (pf:=pf) (nf:=nf) (cf:=cf) (c:=c) S4.B.P.G S4.B.ia HSy.out.1 HSy.out.2 hqg
   go_upto_region 6 with fail
   clear m0 m1 hWn hl4 S3 r5 hq
   generalize wr.alloc (.cells #[.int .i64 q,.slice qn nd.rungs.length cn] 65)=wa at *
   generalize wr.heap.size=gn at *
   have y0:∀ x:ah wa,x.w.cell? ⟨w.heap.size,0,none⟩=some (.slice p gs.length c):=fun x=>(x.cell (ac S4.B.s0)).trans S4.B.c0
   have y1:∀ x:ah wa,x.w.cell? ⟨w.heap.size+1,0,none⟩=some (.slice pa na ca):=fun x=>(x.cell (ac S4.B.s1)).trans S4.B.c1
   have y2:∀ x:ah wa,x.w.cell? ⟨w.heap.size+1,1,none⟩=some (.slice pf nf cf):=fun x=>(x.cell (ac S4.B.s1)).trans S4.B.c2
   have y3:∀ x:ah wa,x.w.cell? ⟨gn,0,none⟩=some (.int .i64 q):=fun x=>(x.cell (ac hrA)).trans (aa hrA 0)
   have y4:∀ x:ah wa,x.w.cell? ⟨gn,1,none⟩=some (.slice qn nd.rungs.length cn):=fun x=>(x.cell (ac hrA)).trans (aa hrA 1)
   generalize aS gs q (y.a q).toNat=rq at *
   have HI:Hid (∀ x:ah wa,Calls Tryz.prog 79 #[.agg #[.slice p gs.length c],.agg #[.slice pa na ca,.slice pf nf cf],.int .i64 q] x.w fun e w''=>e=.returned (.agg #[.string rq.name,.string rq.next,.string rq.back,.int .i64 rq.tries,.int .i64 rq.minutes,.slice q1' rq.needs.length c1',.slice q2' rq.loops.length c2'])∧∃ z:ah wa,w''=z.w):=fun x=>ah.calls (HC x.w x.h)
   have HM:Hid (∀ x:ah wa,Calls Tryz.prog 30 #[.slice qn nd.rungs.length cn,.string rq.name] x.w fun e w''=>e=.returned (.int .i64 (dm nd.rungs rq.name.data.toList 0))∧∃ z:ah wa,w''=z.w):=fun x=>(qg qn cn nd.rungs rq.name x.w (HW4.out.below x.h) (by omega)).mono fun _ _ ⟨h,e⟩=>⟨h,x,e⟩
   obtain ⟨z,hz⟩:∃ z,z=dm nd.rungs rq.name.data.toList 0:=⟨_,rfl⟩
   rw [←hz] at HM hwd
   have hfd:=fun wx:World=>vT wx rq.name rq.next rq.back rq.tries rq.minutes q1' rq.needs.length c1' q2' rq.loops.length c2'
   clear hz HC HW4 hrA
   cases hb:pj gs y nd
   ·have hd:decide (z<0)=true:=by rw [hwd,hb];rfl
    have HF:Hid (eA (ai gs) y g=false):=by unfold Hid;rw [HA.out];exact Aw hjl (by rw [←HND.out];exact hb)
    clear hb hwd
    refine aj (by kernel_rfl) (by kernel_rfl) ?_
    repeat (go_big_quiet_step ((first | (go_at_call 79;with_reducible exact HI.out _) | (go_at_call 30;with_reducible exact HM.out _))))
    refine wpQuiet_nil ?_
    rintro _ ⟨⟨w5,hbN⟩,rfl⟩
    have S6:=S4.below hbN
    clear HM HI y0 y1 y2 y3 y4 S4 hbN hfd
    go_wp2
    go_ret
    exact ⟨by rw [HF.out];rfl,S6.B.bl⟩
   ·have hd:decide (z<0)=false:=by rw [hwd,hb];rfl
    have HF:Hid ((r.needs.take (j+1)).all (pj gs y)=true):=zY hjl hx.out (by rw [←HND.out];exact hb)
    clear hb hwd
    refine aj (by kernel_rfl) (by kernel_rfl) ?_
    repeat (go_big_quiet_step ((first | (go_at_call 79;with_reducible exact HI.out _) | (go_at_call 30;with_reducible exact HM.out _))))
    refine wpQuiet_nil ?_
    rintro _ ⟨⟨w5,hbN⟩,rfl⟩
    have S6:=S4.below hbN
    clear HM HI y0 y1 y2 y3 y4 S4 hbN hfd
    go_wp2
    go_roundw
    case rel=>exact ⟨j+1,by go_num,by omega,S6,HF⟩
    case measure=>simp [intOf];omega
  ·obtain rfl:j=r.needs.length:=by omega
   have HF:Hid (eA (ai gs) y g=true):=by unfold Hid;rw [HA.out];have:=hx.out;rwa [DI] at this
   clear hjl hj hx
   go_wp2
   go_ret
   exact ⟨by rw [HF.out];rfl,S3.B.bl⟩
end Go.Proofs.YtnkgbocdpngldaaGreatDoor
