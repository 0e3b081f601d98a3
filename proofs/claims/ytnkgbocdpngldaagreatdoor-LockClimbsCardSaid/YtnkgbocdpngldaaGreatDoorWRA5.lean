/- Lemmas of this claim. -/
import Derived.Test.YtnkgbocdpngldaaGreatDoorWNev
import Derived.Test.YtnkgbocdpngldaaGreatDoorWRA2
import Derived.Test.YtnkgbocdpngldaaGreatDoorWSta3
set_option linter.all false
set_option maxRecDepth 100000
set_option maxHeartbeats 8000000
namespace Go.Proofs.YtnkgbocdpngldaaGreatDoor
open Go.RowKit Dc Dg
theorem fD {gs:List Gd}{i:Nat} (hi:i<gs.length) (h:er gs i=false):a8 gs=false:=by
 rw[←vJ]
 unfold Bx
 rw[EP]
 right
 rw[EE]
 exact⟨i,DG.2 hi,by rw[h];exact DB⟩
theorem xJ {gs:List Gd} (h1:1≤gs.length) (h3:gs.length≤3) (h:(List.range gs.length).all (er gs)=true):a8 gs=true:=by
 rw[←vJ]
 unfold Bx
 rw[h,decide_eq_true h1,decide_eq_true h3];rfl
theorem uc {gs:List Gd}{i:Nat} (h:er gs i=true):(ag gs i).length≤8:=by
 unfold er at h
 simp only[Dv,decide_eq_true_eq] at h
 exact h.1.1.2.2
theorem Ar {gs:List Gd}{f:Gd→Bool}{k:Nat} (hk:k<gs.length):(gs.take (k+1)).any f=((gs.take k).any f||f gs[k]):=by
 rw[Ey hk,FL];simp
theorem x_ {gs:List Gd}{f:Gd→Bool}{k i:Nat} (hk:k<gs.length) (hki:k<i) (h:f gs[k]=true):(gs.take i).any f=true:=by
 rw[FG]
 refine⟨gs[k],?_,h⟩
 rw[List.mem_take_iff_getElem]
 exact⟨k,by omega,rfl⟩
theorem pH (gs:List Gd) (p:Option Addr) (c:Nat) (w:World) (hG:bE w p gs) (hX:Gx w) (hF:AO gs) :
  Calls Tryz.prog 34 #[.agg #[.slice p gs.length c]] w (lw (a8 gs) 40 w):=by
 have S0:=CSt.new w gs p c hG hX
 have HF:=Do hF
 clear hG hX hF
 go_enter Tryz.func34,Tryz.ntmps34
 go_upto_region 1 with fail
 generalize w.alloc (.cells #[.slice p gs.length c] 24)=w0 at S0 ⊢
 have s0:=S0.s0
 go_wp2_with fail
 refine (jc _ 1 3 w0).mono ?_
 rintro e w1 ⟨rfl,hw1⟩
 obtain rfl:=hw1.symm
 clear s0
 by_cases hlen:1≤gs.length∧gs.length≤3
 ·have hbl:(decide ((1:Int)≤(gs.length:Int))&&decide ((gs.length:Int)≤3))=true:=by simp;omega
  rw[hbl]
  clear hbl
  obtain⟨hl1,hl3⟩:=hlen
  go_wp2_with fail
  go_loopw [3] (fun s3 wx=>∃ i:Nat,s3=.int .i64 i∧i≤gs.length∧CSt w wx w.heap.size gs p c∧Hid ((List.range i).all (er gs)=true)) (fun s3 _=>gs.length-(intOf s3).toNat)
  case atStart=>exact⟨0,rfl,by omega,S0,rfl⟩
  case round =>
   clear S0
   obtain⟨i,rfl,hi,S,hx⟩:=hrel
   by_cases hil:i<gs.length
   ·obtain⟨b,o,rfl,hbw,hcs⟩:=S.G.at_ (by omega)
    obtain⟨q,cq,e0,e1,hR⟩:=hcs i hil
    obtain⟨g,hge⟩:∃ g,g=gs[i]:=⟨_,rfl⟩
    rw[←hge] at e0 e1 hR
    have hgm:g∈gs:=by rw[hge];exact DH hil
    have hra:ag gs i=g.rungs:=by unfold ag;rw[Dq hil,hge]
    have hga:eo gs i=g:=by unfold eo;rw[Dq hil,hge]
    have HRA:=Do hra
    have HGA:=Do hga
    have hrl:((g.rungs.length:Nat):Int)≤1000000000000000:=by have:=HF.out.len g hgm;omega
    have hl4:=bj wr (.cells #[.string g.name,.slice q g.rungs.length cq] 62)
    have s0:=S.s0
    have D2':DSt w (wr.alloc (.cells #[.string g.name,.slice q g.rungs.length cq] 62)) w.heap.size wr.heap.size gs (some ⟨b,o,none⟩) c g q cq:=⟨S.below hl4.below,aa hl4.s0 0,aa hl4.s0 1,by rw[hl4.size];omega,hR.below hl4.below⟩
    clear hge hcs hra hga hR hl4
    go_upto_region 7 with fail
    clear S e0 e1 s0
    generalize wr.alloc (.cells #[.string g.name,.slice q g.rungs.length cq] 62)=wa at *
    generalize wr.heap.size=kb at *
    have D2:=D2'
    clear D2'
    have t0:=D2.t0
    go_wp2_with fail
    refine (nU g.name wa).mono ?_
    rintro e w3 ⟨rfl,hw3⟩
    obtain rfl:=hw3.symm
    obtain⟨bn,hbn⟩:∃ b,b=bG g.name.data.toList:=⟨_,rfl⟩
    rw[←hbn]
    have HBN:=Do hbn
    clear hbn t0
    cases bn
    ·have HGF:Hid (a8 gs=false):=fD hil (by unfold er;rw[HGA.out,←HBN.out];rfl)
     go_wp2
     go_ret
     exact⟨by rw[HGF.out];rfl,D2.C.bl⟩
    ·have t1:=D2.t1
     go_wp2_with fail
     refine (jc _ 1 8 wa).mono ?_
     rintro e w4 ⟨rfl,hw4⟩
     obtain rfl:=hw4.symm
     have hq:(decide ((1:Int)≤(g.rungs.length:Int))&&decide ((g.rungs.length:Int)≤8))=(decide (1≤(ag gs i).length)&&decide ((ag gs i).length≤8)):=by
      rw[HRA.out];congr 1<;>(rw[decide_eq_decide];omega)
     rw[hq]
     obtain⟨bm,hbm⟩:∃ b,b=(decide (1≤(ag gs i).length)&&decide ((ag gs i).length≤8)):=⟨_,rfl⟩
     rw[←hbm]
     have HBM:=Do hbm
     clear hbm hq t1
     cases bm
     ·have HGF:Hid (a8 gs=false):=fD hil (by unfold er;rw[←HBM.out];simp)
      go_wp2
      go_ret
      exact⟨by rw[HGF.out];rfl,D2.C.bl⟩
     ·have hlen8:1≤(ag gs i).length∧(ag gs i).length≤8:=by
       have:=HBM.out
       have h2:=this.symm
       simp only[Dv,decide_eq_true_eq] at h2
       exact h2
      have h8:g.rungs.length≤8:=by rw[←HRA.out];exact hlen8.2
      have HRS:=Do (show ∀ j,j≤i→(ag gs j).length<1000000 from fun j hj=>by
       rcases Eb j i with h | h
       ·have:=uc (DO.1 hx.out j (DG.2 h));omega
       ·obtain rfl:j=i:=by omega
        omega)
      have HFI:=Do (show ∀ r∈ag gs i,m9 r by rw[HRA.out];exact HF.out.rungs g hgm)
      clear hlen8
      go_wp2_with fail
      go_loopw [5] (fun s5 wx=>∃ k:Nat,s5=.int .i64 k∧k≤i∧DSt w wx w.heap.size kb gs (some ⟨b,o,none⟩) c g q cq∧Hid ((gs.take k).any (fun x=>decide (x.name.data.toList=(eo gs i).name.data.toList))=false)) (fun s5 _=>i-(intOf s5).toNat)
      case atStart=>exact⟨0,rfl,by omega,D2,rfl⟩
      case round =>
       clear D2
       obtain⟨k,rfl,hk,D,hy⟩:=hrel
       by_cases hkl:k<i
       ·have hkg:k<gs.length:=by omega
        obtain⟨b',o',e',hlt',hc'⟩:=D.C.G.at_ (by omega)
        obtain⟨rfl,rfl⟩:b=b'∧o=o':=by simpa using e'
        obtain⟨qk,ck,u0,_,_⟩:=hc' k hkg
        obtain⟨gk,hgk⟩:∃ gk,gk=gs[k]:=⟨_,rfl⟩
        rw[←hgk] at u0
        have s0:=D.C.s0;have t0:=D.t0
        have hkI:(k:Int)<(gs.length:Int):=by omega
        by_cases heq:gk.name.data.toList=g.name.data.toList
        ·have z1:(gk.name.toList == g.name.toList)=true:=by rw[gI];simp[heq]
         have HGF:Hid (a8 gs=false):=fD hil (by
          have:ju gs i=true:=x_ hkg hkl (by rw[HGA.out,←hgk];exact decide_eq_true heq)
          unfold er;rw[this];simp)
         clear hgk heq hc' e'
         go_wp2_with fail
         go_quiet (fail)
         go_wp2
         go_ret
         exact⟨by rw[HGF.out];rfl,(D.below (below_drewN (Below.refl _ _) _)).C.bl⟩
        ·have z1:(gk.name.toList == g.name.toList)=false:=by rw[gI];simp[heq]
         have HST:Hid ((gs.take (k+1)).any (fun x=>decide (x.name.data.toList=(eo gs i).name.data.toList))=false):=by
          unfold Hid;rw[Ar hkg,hy.out,HGA.out,←hgk,decide_eq_false heq];rfl
         clear hgk heq hc' e'
         go_wp2_with fail
         go_quiet (fail)
         go_wp2
         go_roundw
         case rel=>exact⟨k+1,by go_num,by omega,D.below (below_drewN (Below.refl _ _) _),HST⟩
         case measure=>simp[intOf];omega
       ·obtain rfl:k=i:=by omega
        have HTW:Hid (ju gs k=false):=hy.out
        clear hkl hk hy
        have t1:=D.t1
        go_wp2_with fail
        go_loopw [6] (fun s6 wx=>∃ m:Nat,s6=.int .i64 m∧m≤g.rungs.length∧DSt w wx w.heap.size kb gs (some ⟨b,o,none⟩) c g q cq∧Hid ((List.range m).all (fE gs k)=true)) (fun s6 _=>g.rungs.length-(intOf s6).toNat)
        case atStart=>exact⟨0,rfl,by omega,D,rfl⟩
        case round =>
         clear D t1
         obtain⟨m,rfl,hm,D,hy⟩:=hrel
         have t1:=D.t1
         by_cases hml:m<g.rungs.length
         ·have s0:=D.C.s0
          go_wp2_with fail
          refine (Ab gs (some ⟨b,o,none⟩) c k m _ D.C.G D.C.gx hil (by rw[HRA.out];exact hml) (by omega) HRS.out HFI.out).mono ?_
          rintro e w4 ⟨rfl,hb4⟩
          have D4:=D.below hb4
          clear D hb4 s0 t1
          obtain⟨bk,hbk⟩:∃ b,b=fE gs k m:=⟨_,rfl⟩
          rw[←hbk]
          have HBK:=Do hbk
          clear hbk
          cases bk
          ·have HGF:Hid (a8 gs=false):=fD hil (by
            have:xf gs k=false:=ig (by rw[HRA.out];exact hml) HBK.out.symm
            unfold er;rw[this,EV])
           go_wp2
           go_ret
           exact⟨by rw[HGF.out];rfl,D4.C.bl⟩
          ·have HST:Hid ((List.range (m+1)).all (fE gs k)=true):=bH hy.out HBK.out.symm
           go_wp2
           go_roundw
           case rel=>exact⟨m+1,by go_num,by omega,D4,HST⟩
           case measure=>simp[intOf];omega
         ·obtain rfl:m=g.rungs.length:=by omega
          have HGD:Hid ((List.range (k+1)).all (er gs)=true):=bH hx.out (by
           have:xf gs k=true:=by unfold xf;rw[HRA.out];exact hy.out
           unfold er;rw[this,HTW.out,←HBM.out,HGA.out,←HBN.out];rfl)
          clear hml hm hy
          go_wp2
          go_roundw
          case rel=>exact⟨k+1,by go_num,by omega,D.C,HGD⟩
          case measure=>simp[intOf];omega
   ·obtain rfl:i=gs.length:=by omega
    have HST:=Do (xJ hl1 hl3 hx.out)
    have s0:=S.s0
    clear hil hi hx
    go_wp2
    go_ret
    exact⟨by rw[HST.out];rfl,S.bl⟩
 ·have hbl:(decide ((1:Int)≤(gs.length:Int))&&decide ((gs.length:Int)≤3))=false:=by rw[Eh];intro h;simp at h;omega
  rw[hbl]
  have HST:=Do (tr hlen)
  clear hbl hlen
  go_wp2
  go_ret
  exact⟨by rw[HST.out];rfl,S0.bl⟩
def zO (w:World) (b:Nat) (u0 u1 u2 u3 u4 u5 u6:Value):World :=
 ((((((w.setCell ⟨b,0,none⟩ u0).setCell ⟨b,1,none⟩ u1).setCell ⟨b,2,none⟩ u2).setCell ⟨b,3,none⟩ u3).setCell ⟨b,4,none⟩ u4).setCell ⟨b,5,none⟩ u5).setCell ⟨b,6,none⟩ u6
theorem xq {w:World}{b:Nat}{v0 v1 v2 v3 v4 v5 v6 u0 u1 u2 u3 u4 u5 u6:Value}{t:TypeId} (h:w.heap[b]?=some (.cells #[v0,v1,v2,v3,v4,v5,v6] t (0,0))):eZ w (zO w b u0 u1 u2 u3 u4 u5 u6) b t #[u0,u1,u2,u3,u4,u5,u6]:=by
 have e0:(w.setCell ⟨b,0,none⟩ u0).heap[b]?=some (.cells #[u0,v1,v2,v3,v4,v5,v6] t (0,0)):=heap_setCell_same _ b 0 _ _ u0 h
 have e1:((w.setCell ⟨b,0,none⟩ u0).setCell ⟨b,1,none⟩ u1).heap[b]?=some (.cells #[u0,u1,v2,v3,v4,v5,v6] t (0,0)):=heap_setCell_same _ b 1 _ _ u1 e0
 have e2:(((w.setCell ⟨b,0,none⟩ u0).setCell ⟨b,1,none⟩ u1).setCell ⟨b,2,none⟩ u2).heap[b]?=some (.cells #[u0,u1,u2,v3,v4,v5,v6] t (0,0)):=heap_setCell_same _ b 2 _ _ u2 e1
 have e3:((((w.setCell ⟨b,0,none⟩ u0).setCell ⟨b,1,none⟩ u1).setCell ⟨b,2,none⟩ u2).setCell ⟨b,3,none⟩ u3).heap[b]?=some (.cells #[u0,u1,u2,u3,v4,v5,v6] t (0,0)):=heap_setCell_same _ b 3 _ _ u3 e2
 have e4:(((((w.setCell ⟨b,0,none⟩ u0).setCell ⟨b,1,none⟩ u1).setCell ⟨b,2,none⟩ u2).setCell ⟨b,3,none⟩ u3).setCell ⟨b,4,none⟩ u4).heap[b]?=some (.cells #[u0,u1,u2,u3,u4,v5,v6] t (0,0)):=heap_setCell_same _ b 4 _ _ u4 e3
 have e5:((((((w.setCell ⟨b,0,none⟩ u0).setCell ⟨b,1,none⟩ u1).setCell ⟨b,2,none⟩ u2).setCell ⟨b,3,none⟩ u3).setCell ⟨b,4,none⟩ u4).setCell ⟨b,5,none⟩ u5).heap[b]?=some (.cells #[u0,u1,u2,u3,u4,u5,v6] t (0,0)):=heap_setCell_same _ b 5 _ _ u5 e4
 have e6:(((((((w.setCell ⟨b,0,none⟩ u0).setCell ⟨b,1,none⟩ u1).setCell ⟨b,2,none⟩ u2).setCell ⟨b,3,none⟩ u3).setCell ⟨b,4,none⟩ u4).setCell ⟨b,5,none⟩ u5).setCell ⟨b,6,none⟩ u6).heap[b]?=some (.cells #[u0,u1,u2,u3,u4,u5,u6] t (0,0)):=heap_setCell_same _ b 6 _ _ u6 e5
 refine⟨e6,fun k hk=>?_,by simp[zO,World.setCell],fun n hn=>?_⟩
 ·unfold zO
  rw[heap_setCell_other _ _ _ _ hk,heap_setCell_other _ _ _ _ hk,heap_setCell_other _ _ _ _ hk,heap_setCell_other _ _ _ _ hk,heap_setCell_other _ _ _ _ hk,heap_setCell_other _ _ _ _ hk,heap_setCell_other _ _ _ _ hk]
 ·exact (((((((Below.refl n w).setCell (p:=⟨b,0,none⟩) hn _).setCell (p:=⟨b,1,none⟩) hn _).setCell (p:=⟨b,2,none⟩) hn _).setCell (p:=⟨b,3,none⟩) hn _).setCell (p:=⟨b,4,none⟩) hn _).setCell (p:=⟨b,5,none⟩) hn _).setCell (p:=⟨b,6,none⟩) hn _
structure AtS (w:World) (k0 bg og n c g:Nat) (b o cq nr k ba oa na ca:Nat) (r:Rg) (q1:Option Addr) (c1:Nat) (q2:Option Addr) (c2:Nat):Prop where
 sy:w.cell? ⟨k0,0,none⟩=some (.slice (some ⟨bg,og,none⟩) n c)
 gu:w.cell? ⟨bg,og+g*2+1,none⟩=some (.slice (some ⟨b,o,none⟩) nr cq)
 st:w.cell? ⟨k0+1,0,none⟩=some (.slice (some ⟨ba,oa,none⟩) na ca)
 al:w.cell? ⟨ba,oa+g,none⟩=some (.int .i64 k)
 R:kq w b (o+k*7) r q1 c1 q2 c2
theorem aU.get {w:World}{v:Value}{l:List Int} (h:aU w v l) {j:Nat} (hj:j<l.length):∃ b o c,v=.slice (some ⟨b,o,none⟩) l.length c∧b<w.heap.size∧w.cell? ⟨b,o+j,none⟩=some (.int .i64 l[j]):=by
 obtain⟨p,c,rfl,hc⟩:=h.at_
 obtain⟨b,o,rfl,hb,hc⟩:=hc (by omega)
 exact⟨b,o,c,rfl,hb,hc j hj⟩
theorem AW (w:World) (bg og n c g b o cq nr k ba oa na ca:Nat) (pf:Option Addr) (nf cf:Nat) (r:Rg) (q1:Option Addr) (c1:Nat) (q2:Option Addr) (c2:Nat)
  (hg:g<n) (hk:k<nr) (hga:g<na) (hbg:bg<w.heap.size) (hb:b<w.heap.size) (hba:ba<w.heap.size)
  (h1:w.cell? ⟨bg,og+g*2+1,none⟩=some (.slice (some ⟨b,o,none⟩) nr cq)) (h2:w.cell? ⟨ba,oa+g,none⟩=some (.int .i64 k)) (hR:kq w b (o+k*7) r q1 c1 q2 c2) :
  Calls Tryz.prog 79 #[.agg #[.slice (some ⟨bg,og,none⟩) n c],.agg #[.slice (some ⟨ba,oa,none⟩) na ca,.slice pf nf cf],.int .i64 g] w fun e w'=>e=.returned (.agg #[.string r.name,.string r.next,.string r.back,.int .i64 r.tries,.int .i64 r.minutes,.slice q1 r.needs.length c1,.slice q2 r.loops.length c2])∧Below w.heap.size w w':=by
 have hl:=pQ w (.cells #[.slice (some ⟨bg,og,none⟩) n c] 24) (.cells #[.slice (some ⟨ba,oa,none⟩) na ca,.slice pf nf cf] 41) (.cells #[.string ⟨#[]⟩,.string ⟨#[]⟩,.string ⟨#[]⟩,.int .i64 0,.int .i64 0,.slice none 0 0,.slice none 0 0] 59)
 have hbd0:Below (((w.alloc (.cells #[.slice (some ⟨bg,og,none⟩) n c] 24)).alloc (.cells #[.slice (some ⟨ba,oa,none⟩) na ca,.slice pf nf cf] 41)).alloc (.cells #[.string ⟨#[]⟩,.string ⟨#[]⟩,.string ⟨#[]⟩,.int .i64 0,.int .i64 0,.slice none 0 0,.slice none 0 0] 59)).heap.size _ (((w.alloc (.cells #[.slice (some ⟨bg,og,none⟩) n c] 24)).alloc (.cells #[.slice (some ⟨ba,oa,none⟩) na ca,.slice pf nf cf] 41)).alloc (.cells #[.string ⟨#[]⟩,.string ⟨#[]⟩,.string ⟨#[]⟩,.int .i64 0,.int .i64 0,.slice none 0 0,.slice none 0 0] 59)).drew:=(Below.refl _ _).drew
 have hbd:=hl.below.trans (hbd0.mono hl.below.size)
 have hS:AtS (((w.alloc (.cells #[.slice (some ⟨bg,og,none⟩) n c] 24)).alloc (.cells #[.slice (some ⟨ba,oa,none⟩) na ca,.slice pf nf cf] 41)).alloc (.cells #[.string ⟨#[]⟩,.string ⟨#[]⟩,.string ⟨#[]⟩,.int .i64 0,.int .i64 0,.slice none 0 0,.slice none 0 0] 59)).drew w.heap.size bg og n c g b o cq nr k ba oa na ca r q1 c1 q2 c2 :=
  ⟨(hbd0.cell (p:=⟨_,_,none⟩) (ac hl.s0)).trans (aa hl.s0 0),(hbd.cell (p:=⟨_,_,none⟩) hbg).trans h1,(hbd0.cell (p:=⟨_,_,none⟩) (ac hl.s1)).trans (aa hl.s1 0),(hbd.cell (p:=⟨_,_,none⟩) hba).trans h2,hR.below hb hbd⟩
 have hr2:=(hbd0.block _ (ac hl.s2)).trans hl.s2
 have hnI:(g:Int)<(n:Int):=by omega
 have hkI:(k:Int)<(nr:Int):=by omega
 have haI:(g:Int)<(na:Int):=by omega
 clear hbd0 hl hR h1 h2
 go_enter Tryz.func79,Tryz.ntmps79
 go_upto_region 1 with fail
 generalize ((w.alloc (.cells #[.slice (some ⟨bg,og,none⟩) n c] 24)).alloc (.cells #[.slice (some ⟨ba,oa,none⟩) na ca,.slice pf nf cf] 41)).alloc (.cells #[.string ⟨#[]⟩,.string ⟨#[]⟩,.string ⟨#[]⟩,.int .i64 0,.int .i64 0,.slice none 0 0,.slice none 0 0] 59)=w1 at *
 refine wp_mono (au (Q:=aK _) (fun wx:World=>AtS wx w.heap.size bg og n c g b o cq nr k ba oa na ca r q1 c1 q2 c2) (fun i=>i == 13) (by kernel_rfl) ?_) (fun _ _ _ h=>aN h)
 generalize w1.drew=w2 at *
 refine ae (i:=0) (v:=?vv1) rfl (by kernel_rfl) (fun _ _ _ h=>h) rfl ?hy1 ?rest1
 case hy1=>(intro wy;go_simp;try with_reducible rfl)
 try simp only[Act.put,Dn,Dl,Dm,Di,Dk,Dj]
 refine ae (i:=2) (v:=?vv2) rfl (by kernel_rfl) (fun _ _ _ h=>h) rfl ?hy2 ?rest2
 case hy2=>(intro wy;go_simp;try with_reducible rfl)
 try simp only[Act.put,Dn,Dl,Dm,Di,Dk,Dj]
 refine ae (i:=6) (v:=?vv3) rfl (by kernel_rfl) (fun _ _ _ h=>h) rfl ?hy3 ?rest3
 case hy3=>(intro wy;go_simp;try with_reducible rfl)
 try simp only[Act.put,Dn,Dl,Dm,Di,Dk,Dj]
 refine ae (i:=8) (v:=?vv4) rfl (by kernel_rfl) (fun _ _ _ h=>h) rfl ?hy4 ?rest4
 case hy4=>(intro wy;go_simp;try with_reducible rfl)
 try simp only[Act.put,Dn,Dl,Dm,Di,Dk,Dj]
 refine ak (i:=1) (v:=?vvA) rfl (by kernel_rfl) (fun _ _ _ h=>h) rfl hS ?hyA ?restA
 case hyA =>
  intro wy hy
  have e0:=hy.sy;have e1:=hy.gu;have e2:=hy.st;have e3:=hy.al
  have d0:=hy.R.d0;have d1:=hy.R.d1;have d2:=hy.R.d2;have d3:=hy.R.d3;have d4:=hy.R.d4;have d5:=hy.R.d5;have d6:=hy.R.d6
  clear hy
  go_simp
  try with_reducible rfl
 try simp only[Act.put,Dn,Dl,Dm,Di,Dk,Dj]
 refine ak (i:=7) (v:=?vvB) rfl (by kernel_rfl) (fun _ _ _ h=>h) rfl hS ?hyB ?restB
 case hyB =>
  intro wy hy
  have e0:=hy.sy;have e1:=hy.gu;have e2:=hy.st;have e3:=hy.al
  have d0:=hy.R.d0;have d1:=hy.R.d1;have d2:=hy.R.d2;have d3:=hy.R.d3;have d4:=hy.R.d4;have d5:=hy.R.d5;have d6:=hy.R.d6
  clear hy
  go_simp
  try with_reducible rfl
 try simp only[Act.put,Dn,Dl,Dm,Di,Dk,Dj]
 refine ae (i:=3) (v:=?vv5) rfl (by kernel_rfl) (fun _ _ _ h=>h) rfl ?hy5 ?rest5
 case hy5=>(intro wy;go_simp;try with_reducible rfl)
 try simp only[Act.put,Dn,Dl,Dm,Di,Dk,Dj]
 refine ae (i:=4) (v:=?vv6) rfl (by kernel_rfl) (fun _ _ _ h=>h) rfl ?hy6 ?rest6
 case hy6=>(intro wy;go_simp;try with_reducible rfl)
 try simp only[Act.put,Dn,Dl,Dm,Di,Dk,Dj]
 refine ak (i:=5) (v:=?vvC) rfl (by kernel_rfl) (fun _ _ _ h=>h) rfl hS ?hyC ?restC
 case hyC =>
  intro wy hy
  have e0:=hy.sy;have e1:=hy.gu;have e2:=hy.st;have e3:=hy.al
  have d0:=hy.R.d0;have d1:=hy.R.d1;have d2:=hy.R.d2;have d3:=hy.R.d3;have d4:=hy.R.d4;have d5:=hy.R.d5;have d6:=hy.R.d6
  clear hy
  go_simp
  try with_reducible rfl
 try simp only[Act.put,Dn,Dl,Dm,Di,Dk,Dj]
 refine ae (i:=9) (v:=?vv7) rfl (by kernel_rfl) (fun _ _ _ h=>h) rfl ?hy7 ?rest7
 case hy7=>(intro wy;go_simp;try with_reducible rfl)
 try simp only[Act.put,Dn,Dl,Dm,Di,Dk,Dj]
 refine ak (i:=10) (v:=?vvD) rfl (by kernel_rfl) (fun _ _ _ h=>h) rfl hS ?hyD ?restD
 case hyD =>
  intro wy hy
  have e0:=hy.sy;have e1:=hy.gu;have e2:=hy.st;have e3:=hy.al
  have d0:=hy.R.d0;have d1:=hy.R.d1;have d2:=hy.R.d2;have d3:=hy.R.d3;have d4:=hy.R.d4;have d5:=hy.R.d5;have d6:=hy.R.d6
  clear hy
  go_simp
  try with_reducible rfl
 try simp only[Act.put,Dn,Dl,Dm,Di,Dk,Dj]
 refine ae (i:=11) (v:=?vv8) rfl (by kernel_rfl) (fun _ _ _ h=>h) rfl ?hy8 ?rest8
 case hy8=>(intro wy;go_simp;try with_reducible rfl)
 try simp only[Act.put,Dn,Dl,Dm,Di,Dk,Dj]
 refine ak (i:=12) (v:=?vvE) rfl (by kernel_rfl) (fun _ _ _ h=>h) rfl hS ?hyE ?restE
 case hyE =>
  intro wy hy
  have e0:=hy.sy;have e1:=hy.gu;have e2:=hy.st;have e3:=hy.al
  have d0:=hy.R.d0;have d1:=hy.R.d1;have d2:=hy.R.d2;have d3:=hy.R.d3;have d4:=hy.R.d4;have d5:=hy.R.d5;have d6:=hy.R.d6
  clear hy
  go_simp
  try with_reducible rfl
 try simp only[Act.put,Dn,Dl,Dm,Di,Dk,Dj]
 clear hS
 have hP:eZ w2 (zO w2 (w.heap.size+1+1) (.string r.name) (.string r.next) (.string r.back) (.int .i64 r.tries) (.int .i64 r.minutes) (.slice q1 r.needs.length c1) (.slice q2 r.loops.length c2)) (w.heap.size+1+1) _ #[.string r.name,.string r.next,.string r.back,.int .i64 r.tries,.int .i64 r.minutes,.slice q1 r.needs.length c1,.slice q2 r.loops.length c2]:=xq hr2
 have hB:=hbd.trans (hP.below w.heap.size (by omega))
 have z0:=aa hr2 0
 have z1:=aa hr2 1
 have z2:=aa hr2 2
 have z3:=aa hr2 3
 have z4:=aa hr2 4
 have z5:=aa hr2 5
 have z6:=aa hr2 6
 have f0:=frozen_of_row w2 (w.heap.size+1+1) 0 _ _ hr2
 have f1:=frozen_of_row w2 (w.heap.size+1+1) 1 _ _ hr2
 have f2:=frozen_of_row w2 (w.heap.size+1+1) 2 _ _ hr2
 have f3:=frozen_of_row w2 (w.heap.size+1+1) 3 _ _ hr2
 have f4:=frozen_of_row w2 (w.heap.size+1+1) 4 _ _ hr2
 have f5:=frozen_of_row w2 (w.heap.size+1+1) 5 _ _ hr2
 have f6:=frozen_of_row w2 (w.heap.size+1+1) 6 _ _ hr2
 refine am (i:=13) rfl (by kernel_rfl) rfl (fun K hK=>?_)
 go_simp
 change K _ (zO w2 (w.heap.size+1+1) (.string r.name) (.string r.next) (.string r.back) (.int .i64 r.tries) (.int .i64 r.minutes) (.slice q1 r.needs.length c1) (.slice q2 r.loops.length c2))
 refine hK _ _ (fun h=>by cases h) ?_
 clear hK K z0 f0 z1 f1 z2 f2 z3 f3 z4 f4 z5 f5 z6 f6
 try simp only[Act.put,Dn,Dl,Dm,Di,Dk,Dj]
 refine aA (by kernel_rfl) ?_ _
 simp only[aK]
 go_wp2_with fail
 (try simp only[Exit.inBlock,Exit.then])
 refine bodyPost_ret (results_cell_row rfl _ _ (w.heap.size+1+1) _ _ (0,0) _ rfl hP.row Tryz.underlying59 rfl (by kernel_rfl)) rfl ?_
 exact⟨rfl,hB⟩
theorem aU.at? {w:World}{p:Option Addr}{n c:Nat}{l:List Int} (h:aU w (.slice p n c) l) {j:Nat}{z:Int} (hj:l[j]?=some z):∃ b o,p=some ⟨b,o,none⟩∧n=l.length∧j<n∧b<w.heap.size∧w.cell? ⟨b,o+j,none⟩=some (.int .i64 z):=by
 obtain⟨hjl,rfl⟩:=Du.1 hj
 obtain⟨b,o,c',e,hb,hc⟩:=h.get hjl
 simp only[Value.slice.injEq] at e
 obtain⟨rfl,rfl,rfl⟩:=e
 exact⟨b,o,rfl,rfl,hjl,hb,hc⟩
theorem aU.len {w:World}{p:Option Addr}{n c:Nat}{l:List Int} (h:aU w (.slice p n c) l):n=l.length:=by
 obtain⟨p',c',e,_⟩:=h.at_
 simp only[Value.slice.injEq] at e
 exact e.2.1
theorem yj {gs:List Gd}{p pa pf:Option Addr}{c na ca nf cf:Nat}{al:List Int}{w:World} (hG:bE w p gs) (hA:aU w (.slice pa na ca) al) {g k:Nat} (hg:g<gs.length) (hal:al[g]?=some (k:Int)) (hk:k<(ag gs g).length) :
  ∃ q1 c1 q2 c2,fk w q1 (aO gs g k).needs∧gp w q2 (aO gs g k).loops∧∀ x:World,Below w.heap.size w x→Calls Tryz.prog 79 #[.agg #[.slice p gs.length c],.agg #[.slice pa na ca,.slice pf nf cf],.int .i64 g] x fun e w'=>e=.returned (.agg #[.string (aO gs g k).name,.string (aO gs g k).next,.string (aO gs g k).back,.int .i64 (aO gs g k).tries,.int .i64 (aO gs g k).minutes,.slice q1 (aO gs g k).needs.length c1,.slice q2 (aO gs g k).loops.length c2])∧Below x.heap.size x w':=by
 obtain⟨bg,og,rfl,hbg,hcg⟩:=hG.at_ (by omega)
 obtain⟨q,cq,e0,e1,hR⟩:=hcg g hg
 have hra:ag gs g=gs[g].rungs:=by unfold ag;rw[Dq hg]
 rw[←hra] at e1 hR
 obtain⟨b,o,rfl,hb,hcs⟩:=hR.at_ (by omega)
 obtain⟨q1,c1,q2,c2,hr⟩:=hcs _ hk
 rw[←lh hk] at hr
 obtain⟨ba,oa,rfl,hna,hgn,hba,hca⟩:=hA.at? hal
 refine⟨q1,c1,q2,c2,hr.n,hr.l,fun x hx=>?_⟩
 exact AW x bg og gs.length c g b o cq _ _ ba oa na ca pf nf cf _ q1 c1 q2 c2 hg hk hgn (Dr hbg hx.size) (Dr hb hx.size) (Dr hba hx.size) ((hx.cell (p:=⟨bg,_,none⟩) hbg).trans e1) ((hx.cell (p:=⟨ba,_,none⟩) hba).trans hca) (hr.below hb hx)
theorem qz {gs:List Gd}{y:St} (hS:a8 gs=true) (hy:(ah gs).At y) {g:Nat} (hg:g<gs.length):(atL gs.length y)[g]?=some (((y.a g).toNat:Nat):Int)∧(y.a g).toNat<(ag gs g).length:=by
 have ha:=hy.a g hg
 have hM:(ah gs).rungs g=(ag gs g).length:=rfl
 rw[kt (bN hS).2 y hg]
 exact⟨by rw[Fg ha.1],by omega⟩
theorem np {gs:List Gd}{p pa pf:Option Addr}{c na ca nf cf:Nat}{y:St}{w:World} (hG:bE w p gs) (hA:aU w (.slice pa na ca) (atL gs.length y)) (hS:a8 gs=true) (hy:(ah gs).At y) {g:Nat} (hg:g<gs.length) :
  ∃ q1 c1 q2 c2,fk w q1 (aO gs g (y.a g).toNat).needs∧gp w q2 (aO gs g (y.a g).toNat).loops∧∀ x:World,Below w.heap.size w x→Calls Tryz.prog 79 #[.agg #[.slice p gs.length c],.agg #[.slice pa na ca,.slice pf nf cf],.int .i64 g] x fun e w'=>e=.returned (.agg #[.string (aO gs g (y.a g).toNat).name,.string (aO gs g (y.a g).toNat).next,.string (aO gs g (y.a g).toNat).back,.int .i64 (aO gs g (y.a g).toNat).tries,.int .i64 (aO gs g (y.a g).toNat).minutes,.slice q1 (aO gs g (y.a g).toNat).needs.length c1,.slice q2 (aO gs g (y.a g).toNat).loops.length c2])∧Below x.heap.size x w' :=
 yj hG hA hg (qz hS hy hg).1 (qz hS hy hg).2
end Go.Proofs.YtnkgbocdpngldaaGreatDoor
