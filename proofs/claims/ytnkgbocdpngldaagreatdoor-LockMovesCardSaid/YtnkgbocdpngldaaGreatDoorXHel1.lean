/- Lemmas of this claim. -/
import Derived.Test.YtnkgbocdpngldaaGreatDoorXRun
import Derived.Test.YtnkgbocdpngldaaGreatDoorXNev
import Derived.Test.YtnkgbocdpngldaaGreatDoorXRA4
import Derived.Test.YtnkgbocdpngldaaGreatDoorXSta3
set_option linter.all false
set_option maxRecDepth 100000
set_option maxHeartbeats 8000000
namespace Go.Proofs.YtnkgbocdpngldaaGreatDoor
open Go.RowKit Dc Dg
theorem fm {gs:List Gd}{i:Nat} (hi:i<gs.length) (h:eo gs i=false):aX gs=false:=by
 rw[←vf]
 unfold Bi
 rw[Ep]
 right
 rw[Ee]
 exact⟨i,Dv.2 hi,by rw[h];exact Dl⟩
theorem xu {gs:List Gd} (h1:1≤gs.length) (h3:gs.length≤3) (h:(List.range gs.length).all (eo gs)=true):aX gs=true:=by
 rw[←vf]
 unfold Bi
 rw[h,decide_eq_true h1,decide_eq_true h3];rfl
theorem tG {gs:List Gd}{i:Nat} (h:eo gs i=true):(ag gs i).length≤8:=by
 unfold eo at h
 simp only[Da,decide_eq_true_eq] at h
 exact h.1.1.2.2
theorem Ae {gs:List Gd}{f:Gd→Bool}{k:Nat} (hk:k<gs.length):(gs.take (k+1)).any f=((gs.take k).any f||f gs[k]):=by
 rw[Eb hk,Ft];simp
theorem xM {gs:List Gd}{f:Gd→Bool}{k i:Nat} (hk:k<gs.length) (hki:k<i) (h:f gs[k]=true):(gs.take i).any f=true:=by
 rw[Fp]
 refine⟨gs[k],?_,h⟩
 rw[List.mem_take_iff_getElem]
 exact⟨k,by omega,rfl⟩
theorem ls (gs:List Gd) (p:Option Addr) (c:Nat) (w:World) (hG:bE w p gs) (hX:Gx w) (hF:Az gs) :
  Calls Tryz.prog 34 #[.agg #[.slice p gs.length c]] w (ld (aX gs) 40 w):=by
 have S0:=CSt.new w gs p c hG hX
 have HF:=C5 hF
 clear hG hX hF
 go_enter Tryz.func34,Tryz.ntmps34
 go_upto_region 1 with fail
 generalize w.alloc (.cells #[.slice p gs.length c] 24)=w0 at S0 ⊢
 have s0:=S0.s0
 go_wp2_with fail
 refine (iS _ 1 3 w0).mono ?_
 rintro e w1 ⟨rfl,hw1⟩
 obtain rfl:=hw1.symm
 clear s0
 by_cases hlen:1≤gs.length∧gs.length≤3
 ·have hbl:(decide ((1:Int)≤(gs.length:Int))&&decide ((gs.length:Int)≤3))=true:=by simp;omega
  rw[hbl]
  clear hbl
  obtain⟨hl1,hl3⟩:=hlen
  go_wp2_with fail
  go_loopw [3] (fun s3 wx=>∃ i:Nat,s3=.int .i64 i∧i≤gs.length∧CSt w wx w.heap.size gs p c∧Hid ((List.range i).all (eo gs)=true)) (fun s3 _=>gs.length-(intOf s3).toNat)
  case atStart=>exact⟨0,rfl,by omega,S0,rfl⟩
  case round =>
   clear S0
   obtain⟨i,rfl,hi,S,hx⟩:=hrel
   by_cases hil:i<gs.length
   ·obtain⟨b,o,rfl,hbw,hcs⟩:=S.G.at_ (by omega)
    obtain⟨q,cq,e0,e1,hR⟩:=hcs i hil
    obtain⟨g,hge⟩:∃ g,g=gs[i]:=⟨_,rfl⟩
    rw[←hge] at e0 e1 hR
    have hgm:g∈gs:=by rw[hge];exact Dt hil
    have hra:ag gs i=g.rungs:=by unfold ag;rw[C7 hil,hge]
    have hga:ej gs i=g:=by unfold ej;rw[C7 hil,hge]
    have HRA:=C5 hra
    have HGA:=C5 hga
    have hrl:((g.rungs.length:Nat):Int)≤1000000000000000:=by have:=HF.out.len g hgm;omega
    have hl4:=bL wr (.cells #[.string g.name,.slice q g.rungs.length cq] 62)
    have s0:=S.s0
    have D2':DSt w (wr.alloc (.cells #[.string g.name,.slice q g.rungs.length cq] 62)) w.heap.size wr.heap.size gs (some ⟨b,o,none⟩) c g q cq:=⟨S.below hl4.below,aa hl4.s0 0,aa hl4.s0 1,by rw[hl4.size];omega,hR.below hl4.below⟩
    clear hge hcs hra hga hR hl4
    go_upto_region 7 with fail
    clear S e0 e1 s0
    generalize wr.alloc (.cells #[.string g.name,.slice q g.rungs.length cq] 62)=wa at *
    generalize wr.heap.size=kb at *
    have D2:=D2'
    clear D2'
    have t0:=D2.t0
    go_wp2_with fail
    refine (nz g.name wa).mono ?_
    rintro e w3 ⟨rfl,hw3⟩
    obtain rfl:=hw3.symm
    obtain⟨bn,hbn⟩:∃ b,b=bF g.name.data.toList:=⟨_,rfl⟩
    rw[←hbn]
    have HBN:=C5 hbn
    clear hbn t0
    cases bn
    ·have HGF:Hid (aX gs=false):=fm hil (by unfold eo;rw[HGA.out,←HBN.out];rfl)
     go_wp2
     go_ret
     exact⟨by rw[HGF.out];rfl,D2.C.bl⟩
    ·have t1:=D2.t1
     go_wp2_with fail
     refine (iS _ 1 8 wa).mono ?_
     rintro e w4 ⟨rfl,hw4⟩
     obtain rfl:=hw4.symm
     have hq:(decide ((1:Int)≤(g.rungs.length:Int))&&decide ((g.rungs.length:Int)≤8))=(decide (1≤(ag gs i).length)&&decide ((ag gs i).length≤8)):=by
      rw[HRA.out];congr 1<;>(rw[decide_eq_decide];omega)
     rw[hq]
     obtain⟨bm,hbm⟩:∃ b,b=(decide (1≤(ag gs i).length)&&decide ((ag gs i).length≤8)):=⟨_,rfl⟩
     rw[←hbm]
     have HBM:=C5 hbm
     clear hbm hq t1
     cases bm
     ·have HGF:Hid (aX gs=false):=fm hil (by unfold eo;rw[←HBM.out];simp)
      go_wp2
      go_ret
      exact⟨by rw[HGF.out];rfl,D2.C.bl⟩
     ·have hlen8:1≤(ag gs i).length∧(ag gs i).length≤8:=by
       have:=HBM.out
       have h2:=this.symm
       simp only[Da,decide_eq_true_eq] at h2
       exact h2
      have h8:g.rungs.length≤8:=by rw[←HRA.out];exact hlen8.2
      have HRS:=C5 (show ∀ j,j≤i→(ag gs j).length<1000000 from fun j hj=>by
       rcases DP j i with h | h
       ·have:=tG (Dq.1 hx.out j (Dv.2 h));omega
       ·obtain rfl:j=i:=by omega
        omega)
      have HFI:=C5 (show ∀ r∈ag gs i,mK r by rw[HRA.out];exact HF.out.rungs g hgm)
      clear hlen8
      go_wp2_with fail
      go_loopw [5] (fun s5 wx=>∃ k:Nat,s5=.int .i64 k∧k≤i∧DSt w wx w.heap.size kb gs (some ⟨b,o,none⟩) c g q cq∧Hid ((gs.take k).any (fun x=>decide (x.name.data.toList=(ej gs i).name.data.toList))=false)) (fun s5 _=>i-(intOf s5).toNat)
      case atStart=>exact⟨0,rfl,by omega,D2,rfl⟩
      case round =>
       clear D2
       obtain⟨k,rfl,hk,D,hy⟩:=hrel
       by_cases hkl:k<i
       ·have hkg:k<gs.length:=by omega
        obtain⟨b',o',e',hlt',hc'⟩:=D.C.G.at_ (by omega)
        obtain⟨rfl,rfl⟩:b=b'∧o=o':=by simpa using e'
        obtain⟨qk,ck,u0,_,_⟩:=hc' k hkg
        obtain⟨gk,hgk⟩:∃ gk,gk=gs[k]:=⟨_,rfl⟩
        rw[←hgk] at u0
        have s0:=D.C.s0;have t0:=D.t0
        have hkI:(k:Int)<(gs.length:Int):=by omega
        by_cases heq:gk.name.data.toList=g.name.data.toList
        ·have z1:(gk.name.toList == g.name.toList)=true:=by rw[gt];simp[heq]
         have HGF:Hid (aX gs=false):=fm hil (by
          have:jc gs i=true:=xM hkg hkl (by rw[HGA.out,←hgk];exact decide_eq_true heq)
          unfold eo;rw[this];simp)
         clear hgk heq hc' e'
         go_wp2_with fail
         go_quiet (fail)
         go_wp2
         go_ret
         exact⟨by rw[HGF.out];rfl,(D.below (below_drewN (Below.refl _ _) _)).C.bl⟩
        ·have z1:(gk.name.toList == g.name.toList)=false:=by rw[gt];simp[heq]
         have HST:Hid ((gs.take (k+1)).any (fun x=>decide (x.name.data.toList=(ej gs i).name.data.toList))=false):=by
          unfold Hid;rw[Ae hkg,hy.out,HGA.out,←hgk,decide_eq_false heq];rfl
         clear hgk heq hc' e'
         go_wp2_with fail
         go_quiet (fail)
         go_wp2
         go_roundw
         case rel=>exact⟨k+1,by go_num,by omega,D.below (below_drewN (Below.refl _ _) _),HST⟩
         case measure=>simp[intOf];omega
       ·obtain rfl:k=i:=by omega
        have HTW:Hid (jc gs k=false):=hy.out
        clear hkl hk hy
        have t1:=D.t1
        go_wp2_with fail
        go_loopw [6] (fun s6 wx=>∃ m:Nat,s6=.int .i64 m∧m≤g.rungs.length∧DSt w wx w.heap.size kb gs (some ⟨b,o,none⟩) c g q cq∧Hid ((List.range m).all (fp gs k)=true)) (fun s6 _=>g.rungs.length-(intOf s6).toNat)
        case atStart=>exact⟨0,rfl,by omega,D,rfl⟩
        case round =>
         clear D t1
         obtain⟨m,rfl,hm,D,hy⟩:=hrel
         have t1:=D.t1
         by_cases hml:m<g.rungs.length
         ·have s0:=D.C.s0
          go_wp2_with fail
          refine (zQ gs (some ⟨b,o,none⟩) c k m _ D.C.G D.C.gx hil (by rw[HRA.out];exact hml) (by omega) HRS.out HFI.out).mono ?_
          rintro e w4 ⟨rfl,hb4⟩
          have D4:=D.below hb4
          clear D hb4 s0 t1
          obtain⟨bk,hbk⟩:∃ b,b=fp gs k m:=⟨_,rfl⟩
          rw[←hbk]
          have HBK:=C5 hbk
          clear hbk
          cases bk
          ·have HGF:Hid (aX gs=false):=fm hil (by
            have:wO gs k=false:=gX (by rw[HRA.out];exact hml) HBK.out.symm
            unfold eo;rw[this,Ex])
           go_wp2
           go_ret
           exact⟨by rw[HGF.out];rfl,D4.C.bl⟩
          ·have HST:Hid ((List.range (m+1)).all (fp gs k)=true):=bG hy.out HBK.out.symm
           go_wp2
           go_roundw
           case rel=>exact⟨m+1,by go_num,by omega,D4,HST⟩
           case measure=>simp[intOf];omega
         ·obtain rfl:m=g.rungs.length:=by omega
          have HGD:Hid ((List.range (k+1)).all (eo gs)=true):=bG hx.out (by
           have:wO gs k=true:=by unfold wO;rw[HRA.out];exact hy.out
           unfold eo;rw[this,HTW.out,←HBM.out,HGA.out,←HBN.out];rfl)
          clear hml hm hy
          go_wp2
          go_roundw
          case rel=>exact⟨k+1,by go_num,by omega,D.C,HGD⟩
          case measure=>simp[intOf];omega
   ·obtain rfl:i=gs.length:=by omega
    have HST:=C5 (xu hl1 hl3 hx.out)
    have s0:=S.s0
    clear hil hi hx
    go_wp2
    go_ret
    exact⟨by rw[HST.out];rfl,S.bl⟩
 ·have hbl:(decide ((1:Int)≤(gs.length:Int))&&decide ((gs.length:Int)≤3))=false:=by rw[DU];intro h;simp at h;omega
  rw[hbl]
  have HST:=C5 (sN hlen)
  clear hbl hlen
  go_wp2
  go_ret
  exact⟨by rw[HST.out];rfl,S0.bl⟩
theorem jY:∀ (l:List Rg) (s:List UInt8) (k i:Nat),cJ l s k=(i:Int)→∃ h:i-k<l.length,k≤i∧l[i-k].name.data.toList=s
 | [],s,k,i,h=>by unfold cJ at h;omega
 | r :: l,s,k,i,h=>by
  unfold cJ at h
  split at h
  ·rename_i hn
   have:i=k:=by omega
   subst this
   exact⟨by simp,C6 _,by simpa using hn⟩
  ·obtain⟨h1,h2,h3⟩:=jY l s (k+1) i h
   have e:i-k=(i-(k+1))+1:=by omega
   refine⟨by rw[e];simp;omega,by omega,?_⟩
   simp only[e,C2]
   exact h3
theorem nT {l:List Rg}{s:List UInt8}{i:Nat} (h:aE l s=(i:Int)):∃ h:i<l.length,l[i].name.data.toList=s:=by
 obtain⟨h1,_,h3⟩:=jY l s 0 i h
 exact⟨by simpa using h1,by simpa using h3⟩
theorem kW {gs:List Gd}{g k:Nat} (hk:k<(ag gs g).length):aK gs g k=(ag gs g)[k]:=by
 unfold aK
 rw[C7 hk]
def zz (w:World) (b:Nat) (u0 u1 u2 u3 u4 u5 u6:Value):World :=
 ((((((w.setCell ⟨b,0,none⟩ u0).setCell ⟨b,1,none⟩ u1).setCell ⟨b,2,none⟩ u2).setCell ⟨b,3,none⟩ u3).setCell ⟨b,4,none⟩ u4).setCell ⟨b,5,none⟩ u5).setCell ⟨b,6,none⟩ u6
theorem wV {w:World}{b:Nat}{v0 v1 v2 v3 v4 v5 v6 u0 u1 u2 u3 u4 u5 u6:Value}{t:TypeId} (h:w.heap[b]?=some (.cells #[v0,v1,v2,v3,v4,v5,v6] t (0,0))):dR w (zz w b u0 u1 u2 u3 u4 u5 u6) b t #[u0,u1,u2,u3,u4,u5,u6]:=by
 have e0:(w.setCell ⟨b,0,none⟩ u0).heap[b]?=some (.cells #[u0,v1,v2,v3,v4,v5,v6] t (0,0)):=heap_setCell_same _ b 0 _ _ u0 h
 have e1:((w.setCell ⟨b,0,none⟩ u0).setCell ⟨b,1,none⟩ u1).heap[b]?=some (.cells #[u0,u1,v2,v3,v4,v5,v6] t (0,0)):=heap_setCell_same _ b 1 _ _ u1 e0
 have e2:(((w.setCell ⟨b,0,none⟩ u0).setCell ⟨b,1,none⟩ u1).setCell ⟨b,2,none⟩ u2).heap[b]?=some (.cells #[u0,u1,u2,v3,v4,v5,v6] t (0,0)):=heap_setCell_same _ b 2 _ _ u2 e1
 have e3:((((w.setCell ⟨b,0,none⟩ u0).setCell ⟨b,1,none⟩ u1).setCell ⟨b,2,none⟩ u2).setCell ⟨b,3,none⟩ u3).heap[b]?=some (.cells #[u0,u1,u2,u3,v4,v5,v6] t (0,0)):=heap_setCell_same _ b 3 _ _ u3 e2
 have e4:(((((w.setCell ⟨b,0,none⟩ u0).setCell ⟨b,1,none⟩ u1).setCell ⟨b,2,none⟩ u2).setCell ⟨b,3,none⟩ u3).setCell ⟨b,4,none⟩ u4).heap[b]?=some (.cells #[u0,u1,u2,u3,u4,v5,v6] t (0,0)):=heap_setCell_same _ b 4 _ _ u4 e3
 have e5:((((((w.setCell ⟨b,0,none⟩ u0).setCell ⟨b,1,none⟩ u1).setCell ⟨b,2,none⟩ u2).setCell ⟨b,3,none⟩ u3).setCell ⟨b,4,none⟩ u4).setCell ⟨b,5,none⟩ u5).heap[b]?=some (.cells #[u0,u1,u2,u3,u4,u5,v6] t (0,0)):=heap_setCell_same _ b 5 _ _ u5 e4
 have e6:(((((((w.setCell ⟨b,0,none⟩ u0).setCell ⟨b,1,none⟩ u1).setCell ⟨b,2,none⟩ u2).setCell ⟨b,3,none⟩ u3).setCell ⟨b,4,none⟩ u4).setCell ⟨b,5,none⟩ u5).setCell ⟨b,6,none⟩ u6).heap[b]?=some (.cells #[u0,u1,u2,u3,u4,u5,u6] t (0,0)):=heap_setCell_same _ b 6 _ _ u6 e5
 refine⟨e6,fun k hk=>?_,by simp[zz,World.setCell],fun n hn=>?_⟩
 ·unfold zz
  rw[heap_setCell_other _ _ _ _ hk,heap_setCell_other _ _ _ _ hk,heap_setCell_other _ _ _ _ hk,heap_setCell_other _ _ _ _ hk,heap_setCell_other _ _ _ _ hk,heap_setCell_other _ _ _ _ hk,heap_setCell_other _ _ _ _ hk]
 ·exact (((((((Below.refl n w).setCell (p:=⟨b,0,none⟩) hn _).setCell (p:=⟨b,1,none⟩) hn _).setCell (p:=⟨b,2,none⟩) hn _).setCell (p:=⟨b,3,none⟩) hn _).setCell (p:=⟨b,4,none⟩) hn _).setCell (p:=⟨b,5,none⟩) hn _).setCell (p:=⟨b,6,none⟩) hn _
structure AtS (w:World) (k0 bg og n c g:Nat) (b o cq nr k ba oa na ca:Nat) (r:Rg) (q1:Option Addr) (c1:Nat) (q2:Option Addr) (c2:Nat):Prop where
 sy:w.cell? ⟨k0,0,none⟩=some (.slice (some ⟨bg,og,none⟩) n c)
 gu:w.cell? ⟨bg,og+g*2+1,none⟩=some (.slice (some ⟨b,o,none⟩) nr cq)
 st:w.cell? ⟨k0+1,0,none⟩=some (.slice (some ⟨ba,oa,none⟩) na ca)
 al:w.cell? ⟨ba,oa+g,none⟩=some (.int .i64 k)
 R:j8 w b (o+k*7) r q1 c1 q2 c2
theorem aN.get {w:World}{v:Value}{l:List Int} (h:aN w v l) {j:Nat} (hj:j<l.length):∃ b o c,v=.slice (some ⟨b,o,none⟩) l.length c∧b<w.heap.size∧w.cell? ⟨b,o+j,none⟩=some (.int .i64 l[j]):=by
 obtain⟨p,c,rfl,hc⟩:=h.at_
 obtain⟨b,o,rfl,hb,hc⟩:=hc (by omega)
 exact⟨b,o,c,rfl,hb,hc j hj⟩
theorem AH (w:World) (bg og n c g b o cq nr k ba oa na ca:Nat) (pf:Option Addr) (nf cf:Nat) (r:Rg) (q1:Option Addr) (c1:Nat) (q2:Option Addr) (c2:Nat)
  (hg:g<n) (hk:k<nr) (hga:g<na) (hbg:bg<w.heap.size) (hb:b<w.heap.size) (hba:ba<w.heap.size)
  (h1:w.cell? ⟨bg,og+g*2+1,none⟩=some (.slice (some ⟨b,o,none⟩) nr cq)) (h2:w.cell? ⟨ba,oa+g,none⟩=some (.int .i64 k)) (hR:j8 w b (o+k*7) r q1 c1 q2 c2) :
  Calls Tryz.prog 79 #[.agg #[.slice (some ⟨bg,og,none⟩) n c],.agg #[.slice (some ⟨ba,oa,none⟩) na ca,.slice pf nf cf],.int .i64 g] w fun e w'=>e=.returned (.agg #[.string r.name,.string r.next,.string r.back,.int .i64 r.tries,.int .i64 r.minutes,.slice q1 r.needs.length c1,.slice q2 r.loops.length c2])∧Below w.heap.size w w':=by
 have hl:=pp w (.cells #[.slice (some ⟨bg,og,none⟩) n c] 24) (.cells #[.slice (some ⟨ba,oa,none⟩) na ca,.slice pf nf cf] 41) (.cells #[.string ⟨#[]⟩,.string ⟨#[]⟩,.string ⟨#[]⟩,.int .i64 0,.int .i64 0,.slice none 0 0,.slice none 0 0] 59)
 have hbd0:Below (((w.alloc (.cells #[.slice (some ⟨bg,og,none⟩) n c] 24)).alloc (.cells #[.slice (some ⟨ba,oa,none⟩) na ca,.slice pf nf cf] 41)).alloc (.cells #[.string ⟨#[]⟩,.string ⟨#[]⟩,.string ⟨#[]⟩,.int .i64 0,.int .i64 0,.slice none 0 0,.slice none 0 0] 59)).heap.size _ (((w.alloc (.cells #[.slice (some ⟨bg,og,none⟩) n c] 24)).alloc (.cells #[.slice (some ⟨ba,oa,none⟩) na ca,.slice pf nf cf] 41)).alloc (.cells #[.string ⟨#[]⟩,.string ⟨#[]⟩,.string ⟨#[]⟩,.int .i64 0,.int .i64 0,.slice none 0 0,.slice none 0 0] 59)).drew:=(Below.refl _ _).drew
 have hbd:=hl.below.trans (hbd0.mono hl.below.size)
 have hS:AtS (((w.alloc (.cells #[.slice (some ⟨bg,og,none⟩) n c] 24)).alloc (.cells #[.slice (some ⟨ba,oa,none⟩) na ca,.slice pf nf cf] 41)).alloc (.cells #[.string ⟨#[]⟩,.string ⟨#[]⟩,.string ⟨#[]⟩,.int .i64 0,.int .i64 0,.slice none 0 0,.slice none 0 0] 59)).drew w.heap.size bg og n c g b o cq nr k ba oa na ca r q1 c1 q2 c2 :=
  ⟨(hbd0.cell (p:=⟨_,_,none⟩) (ae hl.s0)).trans (aa hl.s0 0),(hbd.cell (p:=⟨_,_,none⟩) hbg).trans h1,(hbd0.cell (p:=⟨_,_,none⟩) (ae hl.s1)).trans (aa hl.s1 0),(hbd.cell (p:=⟨_,_,none⟩) hba).trans h2,hR.below hb hbd⟩
 have hr2:=(hbd0.block _ (ae hl.s2)).trans hl.s2
 have hnI:(g:Int)<(n:Int):=by omega
 have hkI:(k:Int)<(nr:Int):=by omega
 have haI:(g:Int)<(na:Int):=by omega
 clear hbd0 hl hR h1 h2
 go_enter Tryz.func79,Tryz.ntmps79
 go_upto_region 1 with fail
 generalize ((w.alloc (.cells #[.slice (some ⟨bg,og,none⟩) n c] 24)).alloc (.cells #[.slice (some ⟨ba,oa,none⟩) na ca,.slice pf nf cf] 41)).alloc (.cells #[.string ⟨#[]⟩,.string ⟨#[]⟩,.string ⟨#[]⟩,.int .i64 0,.int .i64 0,.slice none 0 0,.slice none 0 0] 59)=w1 at *
 refine wp_mono (au (Q:=aL _) (fun wx:World=>AtS wx w.heap.size bg og n c g b o cq nr k ba oa na ca r q1 c1 q2 c2) (fun i=>i == 13) (by kernel_rfl) ?_) (fun _ _ _ h=>aV h)
 generalize w1.drew=w2 at *
 refine af (i:=0) (v:=?vv1) rfl (by kernel_rfl) (fun _ _ _ h=>h) rfl ?hy1 ?rest1
 case hy1=>(intro wy;go_simp;try with_reducible rfl)
 try simp only[Act.put,C4,C2,C3,CY,C1,CZ]
 refine af (i:=2) (v:=?vv2) rfl (by kernel_rfl) (fun _ _ _ h=>h) rfl ?hy2 ?rest2
 case hy2=>(intro wy;go_simp;try with_reducible rfl)
 try simp only[Act.put,C4,C2,C3,CY,C1,CZ]
 refine af (i:=6) (v:=?vv3) rfl (by kernel_rfl) (fun _ _ _ h=>h) rfl ?hy3 ?rest3
 case hy3=>(intro wy;go_simp;try with_reducible rfl)
 try simp only[Act.put,C4,C2,C3,CY,C1,CZ]
 refine af (i:=8) (v:=?vv4) rfl (by kernel_rfl) (fun _ _ _ h=>h) rfl ?hy4 ?rest4
 case hy4=>(intro wy;go_simp;try with_reducible rfl)
 try simp only[Act.put,C4,C2,C3,CY,C1,CZ]
 refine ak (i:=1) (v:=?vvA) rfl (by kernel_rfl) (fun _ _ _ h=>h) rfl hS ?hyA ?restA
 case hyA =>
  intro wy hy
  have e0:=hy.sy;have e1:=hy.gu;have e2:=hy.st;have e3:=hy.al
  have d0:=hy.R.d0;have d1:=hy.R.d1;have d2:=hy.R.d2;have d3:=hy.R.d3;have d4:=hy.R.d4;have d5:=hy.R.d5;have d6:=hy.R.d6
  clear hy
  go_simp
  try with_reducible rfl
 try simp only[Act.put,C4,C2,C3,CY,C1,CZ]
 refine ak (i:=7) (v:=?vvB) rfl (by kernel_rfl) (fun _ _ _ h=>h) rfl hS ?hyB ?restB
 case hyB =>
  intro wy hy
  have e0:=hy.sy;have e1:=hy.gu;have e2:=hy.st;have e3:=hy.al
  have d0:=hy.R.d0;have d1:=hy.R.d1;have d2:=hy.R.d2;have d3:=hy.R.d3;have d4:=hy.R.d4;have d5:=hy.R.d5;have d6:=hy.R.d6
  clear hy
  go_simp
  try with_reducible rfl
 try simp only[Act.put,C4,C2,C3,CY,C1,CZ]
 refine af (i:=3) (v:=?vv5) rfl (by kernel_rfl) (fun _ _ _ h=>h) rfl ?hy5 ?rest5
 case hy5=>(intro wy;go_simp;try with_reducible rfl)
 try simp only[Act.put,C4,C2,C3,CY,C1,CZ]
 refine af (i:=4) (v:=?vv6) rfl (by kernel_rfl) (fun _ _ _ h=>h) rfl ?hy6 ?rest6
 case hy6=>(intro wy;go_simp;try with_reducible rfl)
 try simp only[Act.put,C4,C2,C3,CY,C1,CZ]
 refine ak (i:=5) (v:=?vvC) rfl (by kernel_rfl) (fun _ _ _ h=>h) rfl hS ?hyC ?restC
 case hyC =>
  intro wy hy
  have e0:=hy.sy;have e1:=hy.gu;have e2:=hy.st;have e3:=hy.al
  have d0:=hy.R.d0;have d1:=hy.R.d1;have d2:=hy.R.d2;have d3:=hy.R.d3;have d4:=hy.R.d4;have d5:=hy.R.d5;have d6:=hy.R.d6
  clear hy
  go_simp
  try with_reducible rfl
 try simp only[Act.put,C4,C2,C3,CY,C1,CZ]
 refine af (i:=9) (v:=?vv7) rfl (by kernel_rfl) (fun _ _ _ h=>h) rfl ?hy7 ?rest7
 case hy7=>(intro wy;go_simp;try with_reducible rfl)
 try simp only[Act.put,C4,C2,C3,CY,C1,CZ]
 refine ak (i:=10) (v:=?vvD) rfl (by kernel_rfl) (fun _ _ _ h=>h) rfl hS ?hyD ?restD
 case hyD =>
  intro wy hy
  have e0:=hy.sy;have e1:=hy.gu;have e2:=hy.st;have e3:=hy.al
  have d0:=hy.R.d0;have d1:=hy.R.d1;have d2:=hy.R.d2;have d3:=hy.R.d3;have d4:=hy.R.d4;have d5:=hy.R.d5;have d6:=hy.R.d6
  clear hy
  go_simp
  try with_reducible rfl
 try simp only[Act.put,C4,C2,C3,CY,C1,CZ]
 refine af (i:=11) (v:=?vv8) rfl (by kernel_rfl) (fun _ _ _ h=>h) rfl ?hy8 ?rest8
 case hy8=>(intro wy;go_simp;try with_reducible rfl)
 try simp only[Act.put,C4,C2,C3,CY,C1,CZ]
 refine ak (i:=12) (v:=?vvE) rfl (by kernel_rfl) (fun _ _ _ h=>h) rfl hS ?hyE ?restE
 case hyE =>
  intro wy hy
  have e0:=hy.sy;have e1:=hy.gu;have e2:=hy.st;have e3:=hy.al
  have d0:=hy.R.d0;have d1:=hy.R.d1;have d2:=hy.R.d2;have d3:=hy.R.d3;have d4:=hy.R.d4;have d5:=hy.R.d5;have d6:=hy.R.d6
  clear hy
  go_simp
  try with_reducible rfl
 try simp only[Act.put,C4,C2,C3,CY,C1,CZ]
 clear hS
 have hP:dR w2 (zz w2 (w.heap.size+1+1) (.string r.name) (.string r.next) (.string r.back) (.int .i64 r.tries) (.int .i64 r.minutes) (.slice q1 r.needs.length c1) (.slice q2 r.loops.length c2)) (w.heap.size+1+1) _ #[.string r.name,.string r.next,.string r.back,.int .i64 r.tries,.int .i64 r.minutes,.slice q1 r.needs.length c1,.slice q2 r.loops.length c2]:=wV hr2
 have hB:=hbd.trans (hP.below w.heap.size (by omega))
 have z0:=aa hr2 0
 have z1:=aa hr2 1
 have z2:=aa hr2 2
 have z3:=aa hr2 3
 have z4:=aa hr2 4
 have z5:=aa hr2 5
 have z6:=aa hr2 6
 have f0:=frozen_of_row w2 (w.heap.size+1+1) 0 _ _ hr2
 have f1:=frozen_of_row w2 (w.heap.size+1+1) 1 _ _ hr2
 have f2:=frozen_of_row w2 (w.heap.size+1+1) 2 _ _ hr2
 have f3:=frozen_of_row w2 (w.heap.size+1+1) 3 _ _ hr2
 have f4:=frozen_of_row w2 (w.heap.size+1+1) 4 _ _ hr2
 have f5:=frozen_of_row w2 (w.heap.size+1+1) 5 _ _ hr2
 have f6:=frozen_of_row w2 (w.heap.size+1+1) 6 _ _ hr2
 refine am (i:=13) rfl (by kernel_rfl) rfl (fun K hK=>?_)
 go_simp
 change K _ (zz w2 (w.heap.size+1+1) (.string r.name) (.string r.next) (.string r.back) (.int .i64 r.tries) (.int .i64 r.minutes) (.slice q1 r.needs.length c1) (.slice q2 r.loops.length c2))
 refine hK _ _ (fun h=>by cases h) ?_
 clear hK K z0 f0 z1 f1 z2 f2 z3 f3 z4 f4 z5 f5 z6 f6
 try simp only[Act.put,C4,C2,C3,CY,C1,CZ]
 refine aA (by kernel_rfl) ?_ _
 simp only[aL]
 go_wp2_with fail
 (try simp only[Exit.inBlock,Exit.then])
 refine bodyPost_ret (results_cell_row rfl _ _ (w.heap.size+1+1) _ _ (0,0) _ rfl hP.row Tryz.underlying59 rfl (by kernel_rfl)) rfl ?_
 exact⟨rfl,hB⟩
theorem aN.at? {w:World}{p:Option Addr}{n c:Nat}{l:List Int} (h:aN w (.slice p n c) l) {j:Nat}{z:Int} (hj:l[j]?=some z):∃ b o,p=some ⟨b,o,none⟩∧n=l.length∧j<n∧b<w.heap.size∧w.cell? ⟨b,o+j,none⟩=some (.int .i64 z):=by
 obtain⟨hjl,rfl⟩:=De.1 hj
 obtain⟨b,o,c',e,hb,hc⟩:=h.get hjl
 simp only[Value.slice.injEq] at e
 obtain⟨rfl,rfl,rfl⟩:=e
 exact⟨b,o,rfl,rfl,hjl,hb,hc⟩
theorem aN.len {w:World}{p:Option Addr}{n c:Nat}{l:List Int} (h:aN w (.slice p n c) l):n=l.length:=by
 obtain⟨p',c',e,_⟩:=h.at_
 simp only[Value.slice.injEq] at e
 exact e.2.1
theorem xT {gs:List Gd}{p pa pf:Option Addr}{c na ca nf cf:Nat}{al:List Int}{w:World} (hG:bE w p gs) (hA:aN w (.slice pa na ca) al) {g k:Nat} (hg:g<gs.length) (hal:al[g]?=some (k:Int)) (hk:k<(ag gs g).length) :
  ∃ q1 c1 q2 c2,fb w q1 (aK gs g k).needs∧e_ w q2 (aK gs g k).loops∧∀ x:World,Below w.heap.size w x→Calls Tryz.prog 79 #[.agg #[.slice p gs.length c],.agg #[.slice pa na ca,.slice pf nf cf],.int .i64 g] x fun e w'=>e=.returned (.agg #[.string (aK gs g k).name,.string (aK gs g k).next,.string (aK gs g k).back,.int .i64 (aK gs g k).tries,.int .i64 (aK gs g k).minutes,.slice q1 (aK gs g k).needs.length c1,.slice q2 (aK gs g k).loops.length c2])∧Below x.heap.size x w':=by
 obtain⟨bg,og,rfl,hbg,hcg⟩:=hG.at_ (by omega)
 obtain⟨q,cq,e0,e1,hR⟩:=hcg g hg
 have hra:ag gs g=gs[g].rungs:=by unfold ag;rw[C7 hg]
 rw[←hra] at e1 hR
 obtain⟨b,o,rfl,hb,hcs⟩:=hR.at_ (by omega)
 obtain⟨q1,c1,q2,c2,hr⟩:=hcs _ hk
 rw[←kW hk] at hr
 obtain⟨ba,oa,rfl,hna,hgn,hba,hca⟩:=hA.at? hal
 refine⟨q1,c1,q2,c2,hr.n,hr.l,fun x hx=>?_⟩
 exact AH x bg og gs.length c g b o cq _ _ ba oa na ca pf nf cf _ q1 c1 q2 c2 hg hk hgn (C8 hbg hx.size) (C8 hb hx.size) (C8 hba hx.size) ((hx.cell (p:=⟨bg,_,none⟩) hbg).trans e1) ((hx.cell (p:=⟨ba,_,none⟩) hba).trans hca) (hr.below hb hx)
theorem kE {gs:List Gd}{y:St} (hS:aX gs=true) (hy:(ah gs).At y) {g:Nat} (hg:g<gs.length):(atL gs.length y)[g]?=some (((y.a g).toNat:Nat):Int)∧(y.a g).toNat<(ag gs g).length:=by
 have ha:=hy.a g hg
 have hM:(ah gs).rungs g=(ag gs g).length:=rfl
 rw[lj (a_ hS).2 y hg]
 exact⟨by rw[Int.toNat_of_nonneg ha.1],by omega⟩
theorem lk {gs:List Gd}{p pa pf:Option Addr}{c na ca nf cf:Nat}{y:St}{w:World} (hG:bE w p gs) (hA:aN w (.slice pa na ca) (atL gs.length y)) (hS:aX gs=true) (hy:(ah gs).At y) {g:Nat} (hg:g<gs.length) :
  ∃ q1 c1 q2 c2,fb w q1 (aK gs g (y.a g).toNat).needs∧e_ w q2 (aK gs g (y.a g).toNat).loops∧∀ x:World,Below w.heap.size w x→Calls Tryz.prog 79 #[.agg #[.slice p gs.length c],.agg #[.slice pa na ca,.slice pf nf cf],.int .i64 g] x fun e w'=>e=.returned (.agg #[.string (aK gs g (y.a g).toNat).name,.string (aK gs g (y.a g).toNat).next,.string (aK gs g (y.a g).toNat).back,.int .i64 (aK gs g (y.a g).toNat).tries,.int .i64 (aK gs g (y.a g).toNat).minutes,.slice q1 (aK gs g (y.a g).toNat).needs.length c1,.slice q2 (aK gs g (y.a g).toNat).loops.length c2])∧Below x.heap.size x w' :=
 xT hG hA hg (kE hS hy hg).1 (kE hS hy hg).2
def iR (M:aH) (x:St):Bool:=(List.range M.n).all fun g=>decide (M.next g (x.a g).toNat<0)
theorem rz {M:aH}{x:St}{g:Nat} (hg:g<M.n) (h:¬ M.next g (x.a g).toNat<0):iR M x=false:=by
 unfold iR
 rw[Ee]
 exact⟨g,Dv.2 hg,by simpa using h⟩
theorem o_ {M:aH}{x:St} (h:∀ g,g<M.n→M.next g (x.a g).toNat<0):iR M x=true:=by
 unfold iR
 rw[Dq]
 exact fun g hg=>decide_eq_true (h g (Dv.1 hg))
theorem eI.new (w:World) (x:St):eI (w.alloc (.cells #[.int .i64 x.a0,.int .i64 x.a1,.int .i64 x.a2] 85)) w.heap.size x:=⟨by simp,an w _ _ 0 _ rfl,an w _ _ 1 _ rfl,an w _ _ 2 _ rfl⟩
theorem eI.a {w:World}{k g:Nat}{x:St} (h:eI w k x) (hg:g<3):w.cell? ⟨k,g,none⟩=some (.int .i64 (x.a g)):=by
 rcases lt3 hg with rfl | rfl | rfl
 ·exact h.h0
 ·exact h.h1
 ·exact h.h2
theorem BV (gs:List Gd) (p:Option Addr) (c:Nat) (vn vb:Value) (mb N s:Nat) (f:Nat×Nat→Option Value) (w:World) (m:Nat) (x:St) (hP:d_ w m gs p c vn vb mb N s f) (hS:aX gs=true) (hx:(ah gs).At x) :
  Calls Tryz.prog 62 #[.pointer (some ⟨m,0,none⟩),.agg #[.int .i64 x.a0,.int .i64 x.a1,.int .i64 x.a2]] w (fun e w'=>e=.returned (.bool (iR (ah gs) x))∧Below w.heap.size w w'):=by
 obtain⟨hn1,hn3⟩:=a_ hS
 have hb1:Below w.heap.size w (w.alloc (.cells #[.int .i64 x.a0,.int .i64 x.a1,.int .i64 x.a2] 85)):=(Below.refl _ _).alloc (C6 _) _
 have k1:=eI.new w x
 go_enter Tryz.func62,Tryz.ntmps62
 go_upto_region 1 with fail
 generalize w.alloc (.cells #[.int .i64 x.a0,.int .i64 x.a1,.int .i64 x.a2] 85)=w1 at *
 have HP:=C5 (hP.below hb1)
 have m0:=HP.out.m0
 go_wp2_with fail
 clear m0
 have HK:=C5 k1
 clear k1 hP
 go_loopw [12] (fun s12 wr=>∃ i:Nat,s12=.int .i64 i∧i≤gs.length∧Below w1.heap.size w1 wr∧Hid (∀ j,j<i→(ah gs).next j (x.a j).toNat<0)) (fun s12 _=>gs.length-(intOf s12).toNat)
 case atStart=>exact⟨0,rfl,by omega,Below.refl _ _,fun j hj=>by omega⟩
 case round =>
  obtain⟨i,rfl,hi,hbr,hnx⟩:=hrel
  by_cases hil:i<gs.length
  ·have hi3:i<3:=by omega
   have hi3I:(i:Int)<3:=by omega
   have hilI:(i:Int)<(gs.length:Int):=by omega
   have ha:=hx.a i hil
   have hrr:(ah gs).rungs i=(ag gs i).length:=rfl
   obtain⟨k,hk⟩:∃ k:Nat,x.a i=(k:Int):=⟨(x.a i).toNat,by omega⟩
   obtain⟨bg,og,cg,bn,on,cn,bb,ob,cb,bu,ou,cu,bv,ov,cv,br,orr,cr,hN⟩:=mI HP.out hil (show k<(ag gs i).length by omega)
   have NB:=hN.below hbr
   have n0:=NB.n0;have n1:=NB.n1;have n2:=NB.n2
   have c0:=(HK.out.below hbr).a hi3
   rw[hk] at c0
   have hkI:(k:Int)<((ag gs i).length:Int):=by omega
   obtain⟨nx,hnx2⟩:∃ nx,Hid ((ah gs).next i k=nx):=⟨_,rfl⟩
   rw[hnx2.out] at n2
   have HKK:=C5 (show (x.a i).toNat=k by rw[hk,Dr])
   clear NB hN ha hrr hk
   by_cases h:0≤nx
   ·have hd:decide ((0:Int)≤nx)=true:=by simp;omega
    have H:=C5 h
    clear h
    go_wp2_with fail
    go_quiet (fail)
    go_wp2_with fail
    go_ret
    exact⟨by rw[rz (show i<(ah gs).n from hil) (by rw[HKK.out,hnx2.out];have:=H.out;omega)];rfl,below_drewN (hb1.trans (hbr.mono hb1.size)) _⟩
   ·have hd:decide ((0:Int)≤nx)=false:=by simp;omega
    have H:=C5 h
    clear h
    go_wp2_with fail
    go_quiet (fail)
    go_wp2_with fail
    go_roundw
    case rel =>
     refine⟨i+1,by go_num,by omega,below_drewN hbr _,fun j hj=>?_⟩
     by_cases hji:j=i
     ·subst hji;rw[HKK.out,hnx2.out];have:=H.out;omega
     ·exact hnx.out j (by omega)
    case measure=>simp[intOf];omega
  ·obtain rfl:i=gs.length:=by omega
   clear hil
   go_wp2_with fail
   go_ret
   exact⟨by rw[o_ (fun g hg=>hnx.out g hg)];rfl,hb1.trans (hbr.mono hb1.size)⟩
def lh (gs:List Gd) (al fl:List Int) (w:World) (e:Ending) (w':World):Prop :=
 Below w.heap.size w w'∧((∃ n,n≠0∧iD gs al fl n∧e=.returned (.tuple #[.bool false,.int .i64 n]))∨(∃ y,aX gs=true∧cU gs al fl y∧e=.returned (.tuple #[.bool (iR (ah gs) y),.int .i64 0])))
theorem tO (gs:List Gd) (p:Option Addr) (c:Nat) (w:World) (v:Value) (al fl:List Int) (hP:d8 w p c gs) (hQ:kz w v al fl) :
  Calls Tryz.prog 32 #[.agg #[.slice p gs.length c],v] w (lh gs al fl w):=by
 obtain⟨u1,u2,rfl,hI1,hI2⟩:=hQ.at_
 obtain⟨p1,c1,rfl,-⟩:=hI1.at_
 obtain⟨p2,c2,rfl,-⟩:=hI2.at_
 have hb1:Below w.heap.size w ((w.alloc (.cells #[.slice p gs.length c] 24)).alloc (.cells #[.slice p1 al.length c1,.slice p2 fl.length c2] 41)):=((Below.refl _ _).alloc (C6 _) _).alloc (by simp) _
 have s0:((w.alloc (.cells #[.slice p gs.length c] 24)).alloc (.cells #[.slice p1 al.length c1,.slice p2 fl.length c2] 41)).heap[w.heap.size]?=some (.cells #[.slice p gs.length c] 24 (0,0)):=(heap_alloc_old _ _ (by simp)).trans (heap_alloc_new _ _)
 have s1:((w.alloc (.cells #[.slice p gs.length c] 24)).alloc (.cells #[.slice p1 al.length c1,.slice p2 fl.length c2] 41)).heap[w.heap.size+1]?=some (.cells #[.slice p1 al.length c1,.slice p2 fl.length c2] 41 (0,0)):=by
  have:=heap_alloc_new (w.alloc (.cells #[.slice p gs.length c] 24)) (.cells #[.slice p1 al.length c1,.slice p2 fl.length c2] 41)
  simpa using this
 have P1:=hP.below hb1
 have Q1:=hQ.below hb1
 have x0:=ac s0 0
 have x1:=ac s1 0
 have x2:=ac s1 1
 go_enter Tryz.func32,Tryz.ntmps32
 go_upto_region 1 with fail
 generalize (w.alloc (.cells #[.slice p gs.length c] 24)).alloc (.cells #[.slice p1 al.length c1,.slice p2 fl.length c2] 41)=w1 at *
 refine wp_region_lit ?_
 refine wpList_plain rfl (fun K hK=>?_)
 go_simp
 refine hK _ _ ?_
 clear hK K
 try simp only[Act.put,C4,C2,C3,CY,C1,CZ]
 refine wpList_plain rfl (fun K hK=>?_)
 go_simp
 refine hK _ _ ?_
 clear hK K
 try simp only[Act.put,C4,C2,C3,CY,C1,CZ]
 refine wpList_plain rfl (fun K hK=>?_)
 go_simp
 refine (pU gs p c w1 (.agg #[.slice p1 al.length c1,.slice p2 fl.length c2]) al fl P1 Q1).mono ?_
 intro e w2 hq
 obtain⟨pm,y,n,rfl,hq,hb2⟩:=hq.one
 refine hK _ _ ?_
 clear hK K
 try simp only[Act.put,C4,C2,C3,CY,C1,CZ]
 clear s0 s1 x0 x1 x2 P1 Q1
 have HB2:=hb1.trans (hb2.mono hb1.size)
 clear hb2 hb1
 refine wpList_plain rfl (fun K hK=>?_)
 go_simp
 refine hK _ _ ?_
 clear hK K
 try simp only[Act.put,C4,C2,C3,CY,C1,CZ]
 refine wpList_plain rfl (fun K hK=>?_)
 go_simp
 refine hK _ _ ?_
 clear hK K
 try simp only[Act.put,C4,C2,C3,CY,C1,CZ]
 refine wpList_plain rfl (fun K hK=>?_)
 go_simp
 refine hK _ _ ?_
 clear hK K
 try simp only[Act.put,C4,C2,C3,CY,C1,CZ]
 refine wpList_plain rfl (fun K hK=>?_)
 go_simp
 refine hK _ _ ?_
 clear hK K
 try simp only[Act.put,C4,C2,C3,CY,C1,CZ]
 have z0:StP (w2.alloc (.cells #[.int .i64 0,.int .i64 0,.int .i64 0,.int .i64 0,.int .i64 0,.int .i64 0] 87)) w2.heap.size St.zero:=StP.new w2 St.zero
 have hB5:Below w2.heap.size w2 (w2.alloc (.cells #[.int .i64 0,.int .i64 0,.int .i64 0,.int .i64 0,.int .i64 0,.int .i64 0] 87)):=(Below.refl _ _).alloc (C6 _) _
 refine wpList_plain rfl (fun K hK=>?_)
 go_simp
 refine hK _ _ ?_
 clear hK K
 try simp only[Act.put,C4,C2,C3,CY,C1,CZ]
 generalize w2.alloc (.cells #[.int .i64 0,.int .i64 0,.int .i64 0,.int .i64 0,.int .i64 0,.int .i64 0] 87)=w5 at z0 hB5 ⊢
 refine wpList_plain rfl (fun K hK=>?_)
 go_simp
 refine hK _ _ ?_
 clear hK K
 try simp only[Act.put,C4,C2,C3,CY,C1,CZ]
 have q0:=z0.cell 0;have q1:=z0.cell 1;have q2:=z0.cell 2;have q3:=z0.cell 3;have q4:=z0.cell 4;have q5:=z0.cell 5
 have f0:=z0.fr 0;have f1:=z0.fr 1;have f2:=z0.fr 2;have f3:=z0.fr 3;have f4:=z0.fr 4;have f5:=z0.fr 5
 refine wpList_plain rfl (fun K hK=>?_)
 go_simp
 refine hK _ _ ?_
 clear hK K q0 q1 q2 q3 q4 q5 f0 f1 f2 f3 f4 f5
 try simp only[Act.put,C4,C2,C3,CY,C1,CZ]
 change wpList _ _ _ _ _ (bh w5 w2.heap.size y)
 have hB6:=hB5.trans (bo (w:=w5) (b:=w2.heap.size) (z:=y) (C6 _))
 have SP:=z0.put y
 generalize bh w5 w2.heap.size y=w6 at hB6 SP ⊢
 have HB6:=HB2.trans (hB6.mono HB2.size)
 rcases hq with ⟨hn0,hbe⟩ | ⟨rfl,hS,hok,m,vn,vb,mb,N,s,f,rfl,hM⟩
 ·have hd:(n != 0)=true:=by simp[hn0]
  have hEnd:Hid (lh gs al fl w (.returned (.tuple #[.bool false,.int .i64 n])) w6):=⟨HB6,Or.inl ⟨n,hn0,hbe,rfl⟩⟩
  clear hn0 hbe SP z0
  go_wp2_with fail
  go_ret2
  exact hEnd.out
 ·have M6:=hM.below hB6
  have HEnd:Hid (∀ W,Below w6.heap.size w6 W→lh gs al fl w (.returned (.tuple #[.bool (iR (ah gs) y),.int .i64 0])) W):=fun W hW=>⟨HB6.trans (hW.mono HB6.size),Or.inr ⟨y,hS,hok,rfl⟩⟩
  have c0:=SP.cell 0;have c1:=SP.cell 1;have c2:=SP.cell 2;have c3:=SP.cell 3;have c4:=SP.cell 4;have c5:=SP.cell 5
  clear SP z0 hM hB6 hB5
  go_wp2_with fail
  refine (BV gs p c vn vb mb N s f w6 m y M6 hS hok.at_).mono ?_
  rintro e w7 ⟨rfl,hb7⟩
  go_wp2_with fail
  go_ret2
  exact HEnd.out _ hb7
end Go.Proofs.YtnkgbocdpngldaaGreatDoor
