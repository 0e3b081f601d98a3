/-
  Texts of this claim: RA5, Sta1, Sta3, Sta4, Hel1, RA9.
-/
import Derived.Laws.AppendOwnNone
import Derived.Test.YtnkgbocdpngldaaGreatDoorVMach
import Derived.Test.YtnkgbocdpngldaaGreatDoorVMeet
import Derived.Test.YtnkgbocdpngldaaGreatDoorVStat
import Derived.Test.YtnkgbocdpngldaaGreatDoorVRun
import Derived.Test.YtnkgbocdpngldaaGreatDoorVRA4
import Derived.Test.YtnkgbocdpngldaaGreatDoorVA
set_option linter.unusedVariables false
set_option linter.unusedSimpArgs false
set_option maxRecDepth 100000
set_option maxHeartbeats 8000000

namespace Go.Proofs.YtnkgbocdpngldaaGreatDoor
open Go.RowKit Dc Dg
theorem eY {gs:List Gd} {i:Nat} (hi:i<gs.length) (h:dX gs i=false):bf gs=false:=by
 rw [←uo]
 unfold Ao
 rw [Dx]
 right
 rw [Dr]
 exact ⟨i,Cz.2 hi,by rw [h];exact Cm⟩
theorem wl {gs:List Gd} (h1:1≤gs.length) (h3:gs.length≤3) (h:(List.range gs.length).all (dX gs)=true):bf gs=true:=by
 rw [←uo]
 unfold Ao
 rw [h,decide_eq_true h1,decide_eq_true h3];rfl
theorem sI {gs:List Gd} {i:Nat} (h:dX gs i=true):(ag gs i).length≤8:=by
 unfold dX at h
 simp only [Ce,decide_eq_true_eq] at h
 exact h.1.1.2.2
theorem zc {gs:List Gd} {f:Gd→Bool} {k:Nat} (hk:k<gs.length):(gs.take (k+1)).any f=((gs.take k).any f||f gs[k]):=by
 rw [Dh hk,Ef];simp
theorem wL {gs:List Gd} {f:Gd→Bool} {k i:Nat} (hk:k<gs.length) (hki:k<i) (h:f gs[k]=true):(gs.take i).any f=true:=by
 rw [Eb]
 refine ⟨gs[k],?_,h⟩
 rw [List.mem_take_iff_getElem]
 exact ⟨k,by omega,rfl⟩
theorem uE (gs:List Gd) (p:Option Addr) (c:Nat) (w:World) (hG:a8 w p gs) (hX:Gx w) (hF:zB gs) :
  Calls Tryz.prog 34 #[.agg #[.slice p gs.length c]] w (kF (bf gs) 40 w):=by
 have S0:=CSt.new w gs p c hG hX
 have HF:=B8 hF
 clear hG hX hF
 go_enter Tryz.func34,Tryz.ntmps34
 go_upto_region 1 with fail
 generalize w.alloc (.cells #[.slice p gs.length c] 24)=w0 at S0 ⊢
 have s0:=S0.s0
 go_wp2_with fail
 refine (iC _ 1 3 w0).mono ?_
 rintro e w1 ⟨rfl,hw1⟩
 obtain rfl:=hw1.symm
 clear s0
 by_cases hlen:1≤gs.length∧gs.length≤3
 ·have hbl:(decide ((1:Int)≤(gs.length:Int))&&decide ((gs.length:Int)≤3))=true:=by simp;omega
  rw [hbl]
  clear hbl
  obtain ⟨hl1,hl3⟩:=hlen
  go_wp2_with fail
  go_loopw [3] (fun s3 wx=>∃ i:Nat,s3=.int .i64 i∧i≤gs.length∧CSt w wx w.heap.size gs p c∧Hid ((List.range i).all (dX gs)=true)) (fun s3 _=>gs.length-(intOf s3).toNat)
  case atStart=>exact ⟨0,rfl,by omega,S0,rfl⟩
  case round =>
   clear S0
   obtain ⟨i,rfl,hi,S,hx⟩:=hrel
   by_cases hil:i<gs.length
   ·obtain ⟨b,o,rfl,hbw,hcs⟩:=S.G.at_ (by omega)
    obtain ⟨q,cq,e0,e1,hR⟩:=hcs i hil
    obtain ⟨g,hge⟩:∃ g,g=gs[i]:=⟨_,rfl⟩
    rw [←hge] at e0 e1 hR
    have hgm:g∈gs:=by rw [hge];exact Cs hil
    have hra:ag gs i=g.rungs:=by unfold ag;rw [Cb hil,hge]
    have hga:dW gs i=g:=by unfold dW;rw [Cb hil,hge]
    have HRA:=B8 hra
    have HGA:=B8 hga
    have hrl:((g.rungs.length:Nat):Int)≤1000000000000000:=by have:=HF.out.len g hgm;omega
    have hl4:=bc wr (.cells #[.string g.name,.slice q g.rungs.length cq] 62)
    have s0:=S.s0
    have D2':DSt w (wr.alloc (.cells #[.string g.name,.slice q g.rungs.length cq] 62)) w.heap.size wr.heap.size gs (some ⟨b,o,none⟩) c g q cq:=⟨S.below hl4.below,aa hl4.s0 0,aa hl4.s0 1,by rw [hl4.size];omega,hR.below hl4.below⟩
    clear hge hcs hra hga hR hl4
    go_upto_region 7 with fail
    clear S e0 e1 s0
    generalize wr.alloc (.cells #[.string g.name,.slice q g.rungs.length cq] 62)=wa at *
    generalize wr.heap.size=kb at *
    have D2:=D2'
    clear D2'
    have t0:=D2.t0
    go_wp2_with fail
    refine (mI g.name wa).mono ?_
    rintro e w3 ⟨rfl,hw3⟩
    obtain rfl:=hw3.symm
    obtain ⟨bn,hbn⟩:∃ b,b=bA g.name.data.toList:=⟨_,rfl⟩
    rw [←hbn]
    have HBN:=B8 hbn
    clear hbn t0
    cases bn
    ·have HGF:Hid (bf gs=false):=eY hil (by unfold dX;rw [HGA.out,←HBN.out];rfl)
     go_wp2
     go_ret
     exact ⟨by rw [HGF.out];rfl,D2.C.bl⟩
    ·have t1:=D2.t1
     go_wp2_with fail
     refine (iC _ 1 8 wa).mono ?_
     rintro e w4 ⟨rfl,hw4⟩
     obtain rfl:=hw4.symm
     have hq:(decide ((1:Int)≤(g.rungs.length:Int))&&decide ((g.rungs.length:Int)≤8))=(decide (1≤(ag gs i).length)&&decide ((ag gs i).length≤8)):=by
      rw [HRA.out];congr 1<;>(rw [decide_eq_decide];omega)
     rw [hq]
     obtain ⟨bm,hbm⟩:∃ b,b=(decide (1≤(ag gs i).length)&&decide ((ag gs i).length≤8)):=⟨_,rfl⟩
     rw [←hbm]
     have HBM:=B8 hbm
     clear hbm hq t1
     cases bm
     ·have HGF:Hid (bf gs=false):=eY hil (by unfold dX;rw [←HBM.out];simp)
      go_wp2
      go_ret
      exact ⟨by rw [HGF.out];rfl,D2.C.bl⟩
     ·have hlen8:1≤(ag gs i).length∧(ag gs i).length≤8:=by
       have:=HBM.out
       have h2:=this.symm
       simp only [Ce,decide_eq_true_eq] at h2
       exact h2
      have h8:g.rungs.length≤8:=by rw [←HRA.out];exact hlen8.2
      have HRS:=B8 (show ∀ j,j≤i→(ag gs j).length<1000000 from fun j hj=>by
       rcases CS j i with h | h
       ·have:=sI (Cr.1 hx.out j (Cz.2 h));omega
       ·obtain rfl:j=i:=by omega
        omega)
      have HFI:=B8 (show ∀ r∈ag gs i,lY r by rw [HRA.out];exact HF.out.rungs g hgm)
      clear hlen8
      go_wp2_with fail
      go_loopw [5] (fun s5 wx=>∃ k:Nat,s5=.int .i64 k∧k≤i∧DSt w wx w.heap.size kb gs (some ⟨b,o,none⟩) c g q cq∧Hid ((gs.take k).any (fun x=>decide (x.name.data.toList=(dW gs i).name.data.toList))=false)) (fun s5 _=>i-(intOf s5).toNat)
      case atStart=>exact ⟨0,rfl,by omega,D2,rfl⟩
      case round =>
       clear D2
       obtain ⟨k,rfl,hk,D,hy⟩:=hrel
       by_cases hkl:k<i
       ·have hkg:k<gs.length:=by omega
        obtain ⟨b',o',e',hlt',hc'⟩:=D.C.G.at_ (by omega)
        obtain ⟨rfl,rfl⟩:b=b'∧o=o':=by simpa using e'
        obtain ⟨qk,ck,u0,_,_⟩:=hc' k hkg
        obtain ⟨gk,hgk⟩:∃ gk,gk=gs[k]:=⟨_,rfl⟩
        rw [←hgk] at u0
        have s0:=D.C.s0;have t0:=D.t0
        have hkI:(k:Int)<(gs.length:Int):=by omega
        by_cases heq:gk.name.data.toList=g.name.data.toList
        ·have z1:(gk.name.toList == g.name.toList)=true:=by rw [fZ];simp [heq]
         have HGF:Hid (bf gs=false):=eY hil (by
          have:iP gs i=true:=wL hkg hkl (by rw [HGA.out,←hgk];exact decide_eq_true heq)
          unfold dX;rw [this];simp)
         clear hgk heq hc' e'
         go_wp2_with fail
         go_quiet (fail)
         go_wp2
         go_ret
         exact ⟨by rw [HGF.out];rfl,(D.below (below_drewN (Below.refl _ _) _)).C.bl⟩
        ·have z1:(gk.name.toList == g.name.toList)=false:=by rw [fZ];simp [heq]
         have HST:Hid ((gs.take (k+1)).any (fun x=>decide (x.name.data.toList=(dW gs i).name.data.toList))=false):=by
          unfold Hid;rw [zc hkg,hy.out,HGA.out,←hgk,decide_eq_false heq];rfl
         clear hgk heq hc' e'
         go_wp2_with fail
         go_quiet (fail)
         go_wp2
         go_roundw
         case rel=>exact ⟨k+1,by go_num,by omega,D.below (below_drewN (Below.refl _ _) _),HST⟩
         case measure=>simp [intOf];omega
       ·obtain rfl:k=i:=by omega
        have HTW:Hid (iP gs k=false):=hy.out
        clear hkl hk hy
        have t1:=D.t1
        go_wp2_with fail
        go_loopw [6] (fun s6 wx=>∃ m:Nat,s6=.int .i64 m∧m≤g.rungs.length∧DSt w wx w.heap.size kb gs (some ⟨b,o,none⟩) c g q cq∧Hid ((List.range m).all (eZ gs k)=true)) (fun s6 _=>g.rungs.length-(intOf s6).toNat)
        case atStart=>exact ⟨0,rfl,by omega,D,rfl⟩
        case round =>
         clear D t1
         obtain ⟨m,rfl,hm,D,hy⟩:=hrel
         have t1:=D.t1
         by_cases hml:m<g.rungs.length
         ·have s0:=D.C.s0
          go_wp2_with fail
          refine (yO gs (some ⟨b,o,none⟩) c k m _ D.C.G D.C.gx hil (by rw [HRA.out];exact hml) (by omega) HRS.out HFI.out).mono ?_
          rintro e w4 ⟨rfl,hb4⟩
          have D4:=D.below hb4
          clear D hb4 s0 t1
          obtain ⟨bk,hbk⟩:∃ b,b=eZ gs k m:=⟨_,rfl⟩
          rw [←hbk]
          have HBK:=B8 hbk
          clear hbk
          cases bk
          ·have HGF:Hid (bf gs=false):=eY hil (by
            have:vG gs k=false:=gI (by rw [HRA.out];exact hml) HBK.out.symm
            unfold dX;rw [this,DC])
           go_wp2
           go_ret
           exact ⟨by rw [HGF.out];rfl,D4.C.bl⟩
          ·have HST:Hid ((List.range (m+1)).all (eZ gs k)=true):=bB hy.out HBK.out.symm
           go_wp2
           go_roundw
           case rel=>exact ⟨m+1,by go_num,by omega,D4,HST⟩
           case measure=>simp [intOf];omega
         ·obtain rfl:m=g.rungs.length:=by omega
          have HGD:Hid ((List.range (k+1)).all (dX gs)=true):=bB hx.out (by
           have:vG gs k=true:=by unfold vG;rw [HRA.out];exact hy.out
           unfold dX;rw [this,HTW.out,←HBM.out,HGA.out,←HBN.out];rfl)
          clear hml hm hy
          go_wp2
          go_roundw
          case rel=>exact ⟨k+1,by go_num,by omega,D.C,HGD⟩
          case measure=>simp [intOf];omega
   ·obtain rfl:i=gs.length:=by omega
    have HST:=B8 (wl hl1 hl3 hx.out)
    have s0:=S.s0
    clear hil hi hx
    go_wp2
    go_ret
    exact ⟨by rw [HST.out];rfl,S.bl⟩
 ·have hbl:(decide ((1:Int)≤(gs.length:Int))&&decide ((gs.length:Int)≤3))=false:=by rw [Dl];intro h;simp at h;omega
  rw [hbl]
  have HST:=B8 (rL hlen)
  clear hbl hlen
  go_wp2
  go_ret
  exact ⟨by rw [HST.out];rfl,S0.bl⟩
end Go.Proofs.YtnkgbocdpngldaaGreatDoor

namespace Go.Proofs.YtnkgbocdpngldaaGreatDoor
open Go.RowKit Dc Dg
def St.lay (x:St) (g:Nat) (k f:Int):St :=
 match g with
 | 0=>⟨k,x.a1,x.a2,f,x.f1,x.f2⟩
 | 1=>⟨x.a0,k,x.a2,x.f0,f,x.f2⟩
 | _=>⟨x.a0,x.a1,k,x.f0,x.f1,f⟩
theorem St.a_lay (x:St) {g j:Nat} (hg:g<3) (hj:j<3) (k f:Int):(x.lay g k f).a j=if j=g then k else x.a j:=by
 rcases lt3 hg with rfl | rfl | rfl<;>rcases lt3 hj with rfl | rfl | rfl<;>rfl
theorem St.f_lay (x:St) {g j:Nat} (hg:g<3) (hj:j<3) (k f:Int):(x.lay g k f).f j=if j=g then f else x.f j:=by
 rcases lt3 hg with rfl | rfl | rfl<;>rcases lt3 hj with rfl | rfl | rfl<;>rfl
theorem St.ext {x y:St} (ha:∀ j,j<3→x.a j=y.a j) (hf:∀ j,j<3→x.f j=y.f j):x=y:=by
 obtain ⟨x0,x1,x2,x3,x4,x5⟩:=x
 obtain ⟨y0,y1,y2,y3,y4,y5⟩:=y
 have a0:x0=y0:=ha 0 (by decide)
 have a1:x1=y1:=ha 1 (by decide)
 have a2:x2=y2:=ha 2 (by decide)
 have f0:x3=y3:=hf 0 (by decide)
 have f1:x4=y4:=hf 1 (by decide)
 have f2:x5=y5:=hf 2 (by decide)
 subst a0;subst a1;subst a2;subst f0;subst f1;subst f2
 rfl
theorem Bl (g:Nat):St.zero.f g=0:=by unfold St.f St.zero;split<;>rfl
def oz (al fl:List Int):Nat→St
 | 0=>St.zero
 | i+1=>(oz al fl i).lay i (al[i]?.getD 0) (fl[i]?.getD 0)
theorem xC (al fl:List Int) {j:Nat} (hj:j<3):∀ i,i≤3→(oz al fl i).a j=if j<i then al[j]?.getD 0 else 0
 | 0,_=>by rw [if_neg (by omega)];exact Bk j
 | i+1,hi=>by
  rw [oz,St.a_lay _ (by omega) hj,xC al fl hj i (by omega)]
  by_cases h:j=i
  ·subst h;rw [if_pos rfl,if_pos (by omega)]
  ·rw [if_neg h]
   by_cases h2:j<i
   ·rw [if_pos h2,if_pos (by omega)]
   ·rw [if_neg h2,if_neg (by omega)]
theorem xD (al fl:List Int) {j:Nat} (hj:j<3):∀ i,i≤3→(oz al fl i).f j=if j<i then fl[j]?.getD 0 else 0
 | 0,_=>by rw [if_neg (by omega)];exact Bl j
 | i+1,hi=>by
  rw [oz,St.f_lay _ (by omega) hj,xD al fl hj i (by omega)]
  by_cases h:j=i
  ·subst h;rw [if_pos rfl,if_pos (by omega)]
  ·rw [if_neg h]
   by_cases h2:j<i
   ·rw [if_pos h2,if_pos (by omega)]
   ·rw [if_neg h2,if_neg (by omega)]
theorem lU {n:Nat} (hn:n≤3) (x:St):(atL n x).length=n:=by unfold atL;simp;omega
theorem iZ {n:Nat} (hn:n≤3) (x:St):(aO n x).length=n:=by unfold aO;simp;omega
theorem sj {n:Nat} (hn:n≤3) (x:St) {j:Nat} (hj:j<n):(atL n x)[j]?=some (x.a j):=by
 unfold atL
 rw [List.getElem?_take_of_lt hj]
 rcases lt3 (show j<3 by omega) with rfl | rfl | rfl<;>rfl
theorem qC {n:Nat} (hn:n≤3) (x:St) {j:Nat} (hj:j<n):(aO n x)[j]?=some (x.f j):=by
 unfold aO
 rw [List.getElem?_take_of_lt hj]
 rcases lt3 (show j<3 by omega) with rfl | rfl | rfl<;>rfl
structure jR (gs:List Gd) (al fl:List Int) (y:St):Prop where
 at_:(ai gs).At y
 held:zD (ai gs) y
 a:al=atL gs.length y
 f:fl=aO gs.length y
theorem jR.fill {gs:List Gd} {al fl:List Int} {y:St} (hn:gs.length≤3) (h:jR gs al fl y):y=oz al fl gs.length:=by
 have hM:(ai gs).n=gs.length:=rfl
 refine St.ext (fun j hj=>?_) (fun j hj=>?_)
 ·rw [xC al fl hj _ hn]
  by_cases hg:j<gs.length
  ·rw [if_pos hg,h.a,sj hn y hg];rfl
  ·rw [if_neg hg,h.at_.a0 j (by omega) hj]
 ·rw [xD al fl hj _ hn]
  by_cases hg:j<gs.length
  ·rw [if_pos hg,h.f,qC hn y hg];rfl
  ·rw [if_neg hg,h.at_.f0 j (by omega) hj]
theorem jR.uniq {gs:List Gd} {al fl:List Int} {y z:St} (hn:gs.length≤3) (h:jR gs al fl y) (h2:jR gs al fl z):y=z:=(h.fill hn).trans (h2.fill hn).symm
structure tG (w:World) (v:Value) (al fl:List Int):Prop where
 at_:∃ u1 u2,v=.agg #[u1,u2]∧aZ w u1 al∧aZ w u2 fl
theorem tG.below {w w':World} {v:Value} {al fl:List Int} (h:tG w v al fl) (hb:Below w.heap.size w w'):tG w' v al fl:=by
 obtain ⟨u1,u2,e,h1,h2⟩:=h.at_
 exact ⟨u1,u2,e,h1.below hb,h2.below hb⟩
theorem lh.q {B n:Nat} {w:World} {v:Value} {x:St} (h:lh B n w v x):tG w v (atL n x) (aO n x):=by
 obtain ⟨u1,u2,e,h1,h2⟩:=h
 exact ⟨u1,u2,e,h1.q,h2.q⟩
def vi (w:World) (b g:Nat) (k f:Int):World:=(w.setCell ⟨b,g,none⟩ (.int .i64 k)).setCell ⟨b,3+g,none⟩ (.int .i64 f)
theorem StP.lay1 {w:World} {b g:Nat} {x:St} (h:StP w b x) (hg:g<3) (k:Int):StP (w.setCell ⟨b,g,none⟩ (.int .i64 k)) b (x.lay g k (x.f g)):=by
 rcases lt3 hg with rfl | rfl | rfl
 ·unfold StP;rw [heap_setCell_same w b 0 _ _ (.int .i64 k) h];rfl
 ·unfold StP;rw [heap_setCell_same w b 1 _ _ (.int .i64 k) h];rfl
 ·unfold StP;rw [heap_setCell_same w b 2 _ _ (.int .i64 k) h];rfl
theorem StP.lay {w:World} {b g:Nat} {x:St} (h:StP w b x) (hg:g<3) (k f:Int):StP (vi w b g k f) b (x.lay g k f):=by
 have h1:=h.lay1 hg k
 unfold vi
 rcases lt3 hg with rfl | rfl | rfl
 ·unfold StP;rw [heap_setCell_same _ b (3+0) _ _ (.int .i64 f) h1];rfl
 ·unfold StP;rw [heap_setCell_same _ b (3+1) _ _ (.int .i64 f) h1];rfl
 ·unfold StP;rw [heap_setCell_same _ b (3+2) _ _ (.int .i64 f) h1];rfl
theorem sO {w:World} {n b g:Nat} {k f:Int} (hb:n≤b):Below n w (vi w b g k f):=(((Below.refl n w).setCell (p:=⟨b,g,none⟩) hb _).setCell (p:=⟨b,3+g,none⟩) hb _)
theorem mK {w:World} {b g:Nat} {k f:Int} {i:Nat} (h:i≠b):(vi w b g k f).heap[i]?=w.heap[i]?:=by
 unfold vi
 rw [Below.heap_setCell _ _ _ _ h,Below.heap_setCell _ _ _ _ h]
structure p_ (w0 w:World) (u1 u2:Value) (x:St):Prop where
 s:w.heap[w0.heap.size]?=some (.cells #[u1,u2] 41 (0,0))
 r:StP w (w0.heap.size+1) St.zero
 o:StP w (w0.heap.size+1+1) x
 bl:Below w0.heap.size w0 w
theorem p_.below {w0 w w':World} {u1 u2:Value} {x:St} (h:p_ w0 w u1 u2 x) (hb:Below w.heap.size w w'):p_ w0 w' u1 u2 x :=
 ⟨(hb.block _ (ax h.s)).trans h.s,h.r.below hb,h.o.below hb,h.bl.trans (hb.mono h.bl.size)⟩
theorem p_.lay {w0 w:World} {u1 u2:Value} {x:St} (h:p_ w0 w u1 u2 x) {g:Nat} (hg:g<3) (k f:Int):p_ w0 (vi w (w0.heap.size+1+1) g k f) u1 u2 (x.lay g k f) :=
 ⟨by rw [mK (by omega)];exact h.s,by unfold StP;rw [mK (by omega)];exact h.r,h.o.lay hg k f,h.bl.trans (sO (by omega))⟩
theorem p_.new (w:World) (u1 u2:Value):p_ w (((w.alloc (.cells #[u1,u2] 41)).alloc (.cells #[.int .i64 0,.int .i64 0,.int .i64 0,.int .i64 0,.int .i64 0,.int .i64 0] 87)).alloc (.cells #[.int .i64 0,.int .i64 0,.int .i64 0,.int .i64 0,.int .i64 0,.int .i64 0] 87)) u1 u2 St.zero:=by
 have hb1:Below w.heap.size w (w.alloc (.cells #[u1,u2] 41)):=(Below.refl _ _).alloc (Ca _) _
 have a0:=heap_alloc_new w (.cells #[u1,u2] 41)
 have hz1:(w.alloc (.cells #[u1,u2] 41)).heap.size=w.heap.size+1:=by simp
 generalize w.alloc (.cells #[u1,u2] 41)=w1 at *
 have hb2:Below w1.heap.size w1 (w1.alloc (.cells #[.int .i64 0,.int .i64 0,.int .i64 0,.int .i64 0,.int .i64 0,.int .i64 0] 87)):=(Below.refl _ _).alloc (Ca _) _
 have b0:=StP.new w1 St.zero
 have hz2:(w1.alloc (.cells #[.int .i64 0,.int .i64 0,.int .i64 0,.int .i64 0,.int .i64 0,.int .i64 0] 87)).heap.size=w1.heap.size+1:=by simp
 change StP (w1.alloc (.cells #[.int .i64 0,.int .i64 0,.int .i64 0,.int .i64 0,.int .i64 0,.int .i64 0] 87)) w1.heap.size St.zero at b0
 generalize w1.alloc (.cells #[.int .i64 0,.int .i64 0,.int .i64 0,.int .i64 0,.int .i64 0,.int .i64 0] 87)=w2 at *
 have hb3:Below w2.heap.size w2 (w2.alloc (.cells #[.int .i64 0,.int .i64 0,.int .i64 0,.int .i64 0,.int .i64 0,.int .i64 0] 87)):=(Below.refl _ _).alloc (Ca _) _
 have r0:=StP.new w2 St.zero
 change StP (w2.alloc (.cells #[.int .i64 0,.int .i64 0,.int .i64 0,.int .i64 0,.int .i64 0,.int .i64 0] 87)) w2.heap.size St.zero at r0
 rw [hz1] at b0
 rw [hz2,hz1] at r0
 have a1:=(hb2.block _ (ax a0)).trans a0
 refine ⟨(hb3.block _ (ax a1)).trans a1,b0.below hb3,r0,hb1.trans ((hb2.trans (hb3.mono hb2.size)).mono hb1.size)⟩
def SoQ (gs:List Gd) (al fl:List Int) (w:World) (e:Ending) (w':World):Prop :=
 ∃ (y:St) (ok:Bool),e=.returned (.tuple #[.agg #[.int .i64 y.a0,.int .i64 y.a1,.int .i64 y.a2,.int .i64 y.f0,.int .i64 y.f1,.int .i64 y.f2],.bool ok])∧(ok=true→jR gs al fl y)∧(ok=false→∀ z,¬ jR gs al fl z)∧Below w.heap.size w w'
theorem SoQ.no {gs:List Gd} {al fl:List Int} {w w':World} (y:St) (h:∀ z,¬ jR gs al fl z) (hb:Below w.heap.size w w'):SoQ gs al fl w (.returned (.tuple #[.agg #[.int .i64 y.a0,.int .i64 y.a1,.int .i64 y.a2,.int .i64 y.f0,.int .i64 y.f1,.int .i64 y.f2],.bool false])) w' :=
 ⟨y,false,rfl,(fun e=>by cases e),fun _=>h,hb⟩
end Go.Proofs.YtnkgbocdpngldaaGreatDoor

namespace Go.Proofs.YtnkgbocdpngldaaGreatDoor
open Go.RowKit Dc Dg
def stV (y:St):Value:=.agg #[.int .i64 y.a0,.int .i64 y.a1,.int .i64 y.a2,.int .i64 y.f0,.int .i64 y.f1,.int .i64 y.f2]
def zA (gs:List Gd) (al fl:List Int) (n:Int):Prop:=(bf gs=false∧n=40)∨(bf gs=true∧n=41∧∀ z,¬ jR gs al fl z)
def BegQ (gs:List Gd) (p:Option Addr) (c:Nat) (al fl:List Int) (w:World) (e:Ending) (w':World):Prop :=
 Below w.heap.size w w'∧((∃ n,zA gs al fl n∧e=.returned (.tuple #[.pointer none,stV St.zero,.int .i64 n])) ∨
  (∃ (y:St) (m:Nat) (vn vb:Value) (mb N s:Nat) (f:Nat×Nat→Option Value),bf gs=true∧jR gs al fl y∧eT w' m gs p c vn vb mb N s f∧e=.returned (.tuple #[.pointer (some ⟨m,0,none⟩),stV y,.int .i64 0])))
end Go.Proofs.YtnkgbocdpngldaaGreatDoor

namespace Go.Proofs.YtnkgbocdpngldaaGreatDoor
open Go.RowKit Dc Dg
theorem BegQ.one {gs:List Gd} {p:Option Addr} {c:Nat} {al fl:List Int} {w w':World} {e:Ending} (h:BegQ gs p c al fl w e w') :
  ∃ (pm:Value) (y:St) (n:Int),e=.returned (.tuple #[pm,.agg #[.int .i64 y.a0,.int .i64 y.a1,.int .i64 y.a2,.int .i64 y.f0,.int .i64 y.f1,.int .i64 y.f2],.int .i64 n]) ∧
   ((n≠0∧zA gs al fl n)∨(n=0∧bf gs=true∧jR gs al fl y∧∃ (m:Nat) (vn vb:Value) (mb N s:Nat) (f:Nat×Nat→Option Value),pm=.pointer (some ⟨m,0,none⟩)∧eT w' m gs p c vn vb mb N s f))∧Below w.heap.size w w':=by
 obtain ⟨hb,⟨n,hn,rfl⟩ | ⟨y,m,vn,vb,mb,N,s,f,hS,hk,hM,rfl⟩⟩:=h
 ·refine ⟨_,St.zero,n,rfl,Or.inl ⟨?_,hn⟩,hb⟩
  rcases hn with ⟨_,rfl⟩ | ⟨_,rfl,_⟩<;>decide
 ·exact ⟨_,y,0,rfl,Or.inr ⟨rfl,hS,hk,m,vn,vb,mb,N,s,f,rfl,hM⟩,hb⟩
def uc:Value:=.agg #[.slice none 0 0,.slice none 0 0]
def ChkQ (gs:List Gd) (al fl:List Int) (w:World) (e:Ending) (w':World):Prop:=∃ n:Int,e=.returned (.int .i64 n)∧((n≠0∧zA gs al fl n)∨(n=0∧bf gs=true∧∃ y,jR gs al fl y))∧Below w.heap.size w w'
def AC (gs:List Gd) (al fl:List Int) (v:Ev) (w:World) (e:Ending) (w':World):Prop :=
 Below w.heap.size w w'∧((∃ n,n≠0∧zA gs al fl n∧e=.returned (.tuple #[uc,.int .i64 n])) ∨
  (∃ y,bf gs=true∧jR gs al fl y∧((dA (ai gs) v=false∧e=.returned (.tuple #[uc,.int .i64 42]))∨(dA (ai gs) v=true∧∃ u,e=.returned (.tuple #[u,.int .i64 0])∧lh w.heap.size gs.length w' u (bd (ai gs) y v)))))
end Go.Proofs.YtnkgbocdpngldaaGreatDoor

namespace Go.Proofs.YtnkgbocdpngldaaGreatDoor
open Go.RowKit Dc Dg
theorem jK:∀ (l:List Rg) (s:List UInt8) (k i:Nat),cC l s k=(i:Int)→∃ h:i-k<l.length,k≤i∧l[i-k].name.data.toList=s
 | [],s,k,i,h=>by unfold cC at h;omega
 | r :: l,s,k,i,h=>by
  unfold cC at h
  split at h
  ·rename_i hn
   have:i=k:=by omega
   subst this
   exact ⟨by simp,Ca _,by simpa using hn⟩
  ·obtain ⟨h1,h2,h3⟩:=jK l s (k+1) i h
   have e:i-k=(i-(k+1))+1:=by omega
   refine ⟨by rw [e];simp;omega,by omega,?_⟩
   simp only [e,BZ]
   exact h3
theorem m_ {l:List Rg} {s:List UInt8} {i:Nat} (h:aF l s=(i:Int)):∃ h:i<l.length,l[i].name.data.toList=s:=by
 obtain ⟨h1,_,h3⟩:=jK l s 0 i h
 exact ⟨by simpa using h1,by simpa using h3⟩
theorem ky {gs:List Gd} {g k:Nat} (hk:k<(ag gs g).length):aM gs g k=(ag gs g)[k]:=by
 unfold aM
 rw [Cb hk]
theorem AC.good {gs:List Gd} {y:St} {v:Ev} {w w':World} {e:Ending} (h:AC gs (atL gs.length y) (aO gs.length y) v w e w') (hS:bf gs=true) (hy:jR gs (atL gs.length y) (aO gs.length y) y) (hv:dA (ai gs) v=true) :
  Below w.heap.size w w'∧∃ u,e=.returned (.tuple #[u,.int .i64 0])∧lh w.heap.size gs.length w' u (bd (ai gs) y v):=by
 obtain ⟨hb,⟨n,_,hn,_⟩ | ⟨z,_,hz,⟨h1,_⟩ | ⟨_,u,he,hu⟩⟩⟩:=h
 ·rcases hn with ⟨h1,_⟩ | ⟨_,_,h1⟩
  ·rw [hS] at h1;cases h1
  ·exact absurd hy (h1 y)
 ·rw [hv] at h1;cases h1
 ·have:=hz.uniq (cQ hS).2 hy
  subst this
  exact ⟨hb,u,he,hu⟩
theorem ChkQ.good {gs:List Gd} {al fl:List Int} {y:St} {w w':World} {e:Ending} (h:ChkQ gs al fl w e w') (hS:bf gs=true) (hy:jR gs al fl y):e=.returned (.int .i64 0)∧Below w.heap.size w w':=by
 obtain ⟨n,he,⟨_,hn⟩ | ⟨rfl,_⟩,hb⟩:=h
 ·rcases hn with ⟨h1,_⟩ | ⟨_,_,h1⟩
  ·rw [hS] at h1;cases h1
  ·exact absurd hy (h1 y)
 ·exact ⟨he,hb⟩
theorem lh.two {B n:Nat} {w:World} {v:Value} {x:St} (h:lh B n w v x) (hn:n≤3):∃ p1 c1 p2 c2,v=.agg #[.slice p1 n c1,.slice p2 n c2]∧aK B w (.slice p1 n c1) (atL n x)∧aK B w (.slice p2 n c2) (aO n x):=by
 obtain ⟨u1,u2,rfl,h1,h2⟩:=h
 obtain ⟨p1,c1,e1⟩:=h1.slice
 obtain ⟨p2,c2,e2⟩:=h2.slice
 rw [lU hn] at e1
 rw [iZ hn] at e2
 subst e1;subst e2
 exact ⟨p1,c1,p2,c2,rfl,h1,h2⟩
theorem fk.rungs {gs:List Gd} {p:Option Addr} {c:Nat} {w:World} (h:fk w p c gs) {g:Nat} (hg:g<gs.length):∃ bg og q cq,p=some ⟨bg,og,none⟩∧bg<w.heap.size∧w.cell? ⟨bg,og+g*2+1,none⟩=some (.slice q (ag gs g).length cq)∧cD w q (ag gs g):=by
 obtain ⟨bg,og,e,hb,hc⟩:=h.G.at_ (by omega)
 obtain ⟨q,cq,h1,h2,h3⟩:=hc g hg
 have hra:ag gs g=gs[g].rungs:=by unfold ag;rw [Cb hg]
 exact ⟨bg,og,q,cq,e,hb,by rw [hra];exact h2,by rw [hra];exact h3⟩
end Go.Proofs.YtnkgbocdpngldaaGreatDoor

namespace Go.Proofs.YtnkgbocdpngldaaGreatDoor
open Go.RowKit Dc Dg
theorem aK.setType {B:Nat} {w:World} {v:Value} {l:List Int} (h:aK B w v l) {b i:Nat} (u:Value) {cs:Array Value} {t:TypeId} (hb:w.heap[b]?=some (.cells cs t (0,0))) (ht:t≠3):aK B (w.setCell ⟨b,i,none⟩ u) v l :=
 h.same (fun k hk=>by
  obtain ⟨_,_,cur,h2⟩:=aw h hk
  refine heap_setCell_other _ _ _ _ (fun e=>?_)
  subst e
  rw [hb] at h2
  cases h2
  exact ht rfl)
theorem aK.n {B:Nat} {w:World} {p:Option Addr} {n c:Nat} {l:List Int} (h:aK B w (.slice p n c) l):n=l.length:=by
 obtain ⟨a,c',e⟩:=h.slice
 simp only [Value.slice.injEq] at e
 exact e.2.1
theorem aK.stored {B:Nat} {w:World} {g n c:Nat} {l:List Int} (h:aK B w (.slice (some ⟨g,0,none⟩) n c) l) (j:Nat) (z:Int):aK B (w.setCell ⟨g,j,none⟩ (.int .i64 z)) (.slice (some ⟨g,0,none⟩) n c) (l.set j z):=by
 obtain rfl:=h.n
 have:=(World.ownsRow.stored h j (.int .i64 z)).1
 unfold aK
 rw [List.map_set,C7]
 exact this
theorem aK.cellAt {B:Nat} {w:World} {g n c:Nat} {l:List Int} (h:aK B w (.slice (some ⟨g,0,none⟩) n c) l) {j:Nat} {z:Int} (hj:l[j]?=some z):w.cell? ⟨g,j,none⟩=some (.int .i64 z):=by
 have hjl:=(Cg.1 hj).1
 obtain rfl:=h.n
 rw [World.ownsRow.cellAt h j (by omega),Dm,hj];rfl
theorem aK.frozenAt {B:Nat} {w:World} {g n c:Nat} {l:List Int} (h:aK B w (.slice (some ⟨g,0,none⟩) n c) l) (j:Nat):w.frozen? ⟨g,j,none⟩=false:=by
 obtain rfl:=h.n
 exact World.ownsRow.frozenAt h j
theorem aK.some {B:Nat} {w:World} {v:Value} {l:List Int} (h:aK B w v l) (hl:0<l.length):∃ g c,v=.slice (Option.some ⟨g,0,none⟩) l.length c∧B≤g∧g<w.heap.size:=by
 rcases h.2 with ⟨rfl,hn⟩ | ⟨g,cap,cur,rfl,hb,hg,_⟩
 ·omega
 ·exact ⟨g,cap,rfl,hb,ac hg⟩
theorem aK.nil (B:Nat) (w:World):aK B w (.slice none 0 0) []:=World.ownsRow_nil _ _ _ _
structure cI (B:Nat) (w:World) (u1 u2:Value) (al fl:List Int):Prop where
 a:aK B w u1 al
 f:aK B w u2 fl
 ap:∀ k,u1.ownBlock=some k→u2.ownBlock≠some k
theorem cI.below {B:Nat} {w w':World} {u1 u2:Value} {al fl:List Int} (h:cI B w u1 u2 al fl) (hb:Below w.heap.size w w'):cI B w' u1 u2 al fl:=⟨h.a.below hb,h.f.below hb,h.ap⟩
theorem cI.base {B B':Nat} {w:World} {u1 u2:Value} {al fl:List Int} (h:cI B w u1 u2 al fl) (hb:B'≤B):cI B' w u1 u2 al fl:=⟨h.a.base hb,h.f.base hb,h.ap⟩
theorem cI.put {B:Nat} {w:World} {v1 v2:Value} {al fl:List Int} (h:cI B w v1 v2 al fl) {b:Nat} {u1 u2:Value} {cs:Array Value} {t:TypeId} (hb:w.heap[b]?=some (.cells cs t (0,0))) (ht:t≠3):cI B (cm w b u1 u2) v1 v2 al fl:=by
 have h2:(w.setCell ⟨b,0,none⟩ u1).heap[b]?=some (.cells (cs.setIfInBounds 0 u1) t (0,0)):=heap_setCell_same w b 0 _ _ u1 hb
 exact ⟨(h.a.setType _ hb ht).setType _ h2 ht,(h.f.setType _ hb ht).setType _ h2 ht,h.ap⟩
theorem cI.setA {B:Nat} {w:World} {g n c:Nat} {u2:Value} {al fl:List Int} (h:cI B w (.slice (some ⟨g,0,none⟩) n c) u2 al fl) (j:Nat) (z:Int):cI B (w.setCell ⟨g,j,none⟩ (.int .i64 z)) (.slice (some ⟨g,0,none⟩) n c) u2 (al.set j z) fl :=
 ⟨h.a.stored j z,h.f.same (fun k hk=>heap_setCell_other _ _ _ _ (fun e=>h.ap g rfl (by rw [show k=g from e] at hk;exact hk))),h.ap⟩
theorem cI.setF {B:Nat} {w:World} {g n c:Nat} {u1:Value} {al fl:List Int} (h:cI B w u1 (.slice (some ⟨g,0,none⟩) n c) al fl) (j:Nat) (z:Int):cI B (w.setCell ⟨g,j,none⟩ (.int .i64 z)) u1 (.slice (some ⟨g,0,none⟩) n c) al (fl.set j z) :=
 ⟨h.a.same (fun k hk=>heap_setCell_other _ _ _ _ (fun e=>h.ap k hk (by rw [show k=g from e];rfl))),h.f.stored j z,h.ap⟩
theorem lA (q:Option Addr) (n c:Nat) (l:List Int) (w:World) (hl:aZ w (.slice q n c) l) (hq:q=none→c=0) (hn:l.length*8≤140737488351232) :
  Calls Tryz.prog 76 #[.slice q n c] w fun e w'=>∃ p d,e=.returned (.slice p l.length d)∧aK w.heap.size w' (.slice p l.length d) l∧Below w.heap.size w w':=by
 obtain ⟨i0,hi,hz0,hz1,hz2⟩:=info_parts xP
 obtain ⟨p',c',e,hc⟩:=hl.at_
 obtain ⟨rfl,rfl,rfl⟩:q=p'∧n=l.length∧c=c':=by simpa using e
 have hown:w.ownsRow w.heap.size 3 1 (.slice none 0 0) 0 []:=World.ownsRow_nil _ _ _ _
 cases q with
 | none =>
  have h0:l.length=0:=by
   rcases CY l.length with h | h
   ·exact h
   ·obtain ⟨b,o,h2,_⟩:=hc h
    cases h2
  have hl0:l=[]:=Cv h0
  subst hl0
  obtain rfl:=hq rfl
  clear hc hq hl hn
  go_enter Tryz.func76,Tryz.ntmps76
  go_wp2_with (at_builtin;refine wpList_append_own_none rfl _ _ 39 rfl w.heap.size 3 i0 1 Tryz.underlying39 hi _ 0 [] rfl hown rfl ?_)
  go_ret
  exact ⟨none,0,rfl,aK.nil _ _,Below.refl _ _⟩
 | some ad =>
  have H1:∀ j u,(l.map (Value.int .i64))[j]?=some u→w.cell? (ad.add j)=some u:=by
   intro j u hj
   have hjl:j<l.length:=by have:=(Cg.1 hj).1;simpa using this
   obtain ⟨b,o,e2,_,hcl⟩:=hc (by omega)
   obtain rfl:=Option.some.inj e2
   rw [Dm,Cb hjl] at hj
   rw [←Option.some.inj hj,iS]
   exact hcl j hjl
  have H2:∀ u∈l.map (Value.int .i64),u.oneCell'=true:=by
   intro u hu
   obtain ⟨d,_,rfl⟩:=CM.1 hu
   rfl
  have H3:0+l.length≤maxLen:=by unfold maxLen;omega
  have HH:=B8 (And.intro H1 (And.intro H2 H3))
  clear H1 H2 H3 hc hq hl
  go_enter Tryz.func76,Tryz.ntmps76
  go_wp2_with (at_builtin;refine wpList_append_own _ rfl _ _ 39 rfl w.heap.size 3 i0 (.int .i64 0) 1 8 Tryz.underlying39 hi hz0 hz1 hz2 rfl (by decide) _ 0 [] rfl hown ad l.length c (l.map (Value.int .i64)) rfl (by simp) HH.out.1 HH.out.2.1 HH.out.2.2 (by omega) (Ca _) ?_;intro v' w' hown' hg hv)
  rw [C4,C8] at hown'
  have HB:Below w.heap.size w w':=(Below.refl _ _).grown hg (Ca _) (fun k hk=>by cases hk)
  have HR:Hid (aK w.heap.size w' v' l):=hown'
  clear hown' hg hv
  obtain ⟨p2,d2,rfl⟩:=HR.out.slice
  go_wp2_with fail
  go_ret
  exact ⟨p2,d2,rfl,HR.out,HB⟩
structure OwS (w0 w:World) (pa:Option Addr) (na ca:Nat) (pf:Option Addr) (nf cf:Nat) (al fl:List Int):Prop where
 s0:w.heap[w0.heap.size]?=some (.cells #[.slice pa na ca,.slice pf nf cf] 41 (0,0))
 s1:w.heap[w0.heap.size+1]?=some (.cells #[.slice none 0 0,.slice none 0 0] 41 (0,0))
 ia:aZ w (.slice pa na ca) al
 jf:aZ w (.slice pf nf cf) fl
 bl:Below w0.heap.size w0 w
theorem OwS.below {w0 w w':World} {pa:Option Addr} {na ca:Nat} {pf:Option Addr} {nf cf:Nat} {al fl:List Int} (h:OwS w0 w pa na ca pf nf cf al fl) (hb:Below w.heap.size w w'):OwS w0 w' pa na ca pf nf cf al fl :=
 ⟨(hb.block _ (ac h.s0)).trans h.s0,(hb.block _ (ac h.s1)).trans h.s1,h.ia.below hb,h.jf.below hb,h.bl.trans (hb.mono h.bl.size)⟩
theorem uf (pa:Option Addr) (na ca:Nat) (pf:Option Addr) (nf cf:Nat) (al fl:List Int) (w:World) (hA:aZ w (.slice pa na ca) al) (hF:aZ w (.slice pf nf cf) fl) (hqa:pa=none→ca=0) (hqf:pf=none→cf=0) (hla:al.length*8≤140737488351232) (hlf:fl.length*8≤140737488351232) :
  Calls Tryz.prog 37 #[.agg #[.slice pa na ca,.slice pf nf cf]] w fun e w'=>∃ u1 u2,e=.returned (.agg #[u1,u2])∧cI w.heap.size w' u1 u2 al fl∧Below w.heap.size w w':=by
 have hl:=iD w (.cells #[.slice pa na ca,.slice pf nf cf] 41) (.cells #[.slice none 0 0,.slice none 0 0] 41)
 have S0:OwS w ((w.alloc (.cells #[.slice pa na ca,.slice pf nf cf] 41)).alloc (.cells #[.slice none 0 0,.slice none 0 0] 41)) pa na ca pf nf cf al fl:=⟨hl.s0,hl.s1,hA.below hl.below,hF.below hl.below,hl.below⟩
 have hS:=S0.below (below_drewN (Below.refl _ _) 1)
 clear hA hF hl S0
 go_enter Tryz.func37,Tryz.ntmps37
 go_upto_region 1 with fail
 generalize (w.alloc (.cells #[.slice pa na ca,.slice pf nf cf] 41)).alloc (.cells #[.slice none 0 0,.slice none 0 0] 41)=w1 at *
 refine wp_mono (av (Q:=aI _) (fun wx:World=>OwS w wx pa na ca pf nf cf al fl) (fun i=>i == 7) (by kernel_rfl) ?_) (fun _ _ _ h=>aR h)
 change OwS w w1.drew pa na ca pf nf cf al fl at hS
 generalize w1.drew=w2 at *
 refine af (i:=0) (v:=?vv1) rfl (by kernel_rfl) (fun _ _ _ h=>h) rfl ?hy1 ?rest1
 case hy1=>(intro wy;go_simp;try with_reducible rfl)
 try simp only [Act.put,B_,BZ,B6,BV,BY,BW]
 refine af (i:=3) (v:=?vv2) rfl (by kernel_rfl) (fun _ _ _ h=>h) rfl ?hy2 ?rest2
 case hy2=>(intro wy;go_simp;try with_reducible rfl)
 try simp only [Act.put,B_,BZ,B6,BV,BY,BW]
 refine am (i:=1) (v:=?vvA) rfl (by kernel_rfl) (fun _ _ _ h=>h) rfl hS ?hyA ?restA
 case hyA =>
  intro wy hy
  have e0:=aa hy.s0 0;have e1:=aa hy.s0 1
  clear hy
  go_simp
  try with_reducible rfl
 try simp only [Act.put,B_,BZ,B6,BV,BY,BW]
 refine am (i:=4) (v:=?vvB) rfl (by kernel_rfl) (fun _ _ _ h=>h) rfl hS ?hyB ?restB
 case hyB =>
  intro wy hy
  have e0:=aa hy.s0 0;have e1:=aa hy.s0 1
  clear hy
  go_simp
  try with_reducible rfl
 try simp only [Act.put,B_,BZ,B6,BV,BY,BW]
 refine an (i:=2) rfl (by kernel_rfl) rfl (fun K hK=>?_)
 go_simp
 refine (lA _ _ _ _ _ hS.ia hqa hla).mono ?_
 rintro e w4 ⟨q1,d1,rfl,hI1,hb4⟩
 have hS4:=hS.below hb4
 refine hK _ _ (fun _ _=>hS4) ?_
 clear hK K
 try simp only [Act.put,B_,BZ,B6,BV,BY,BW]
 refine an (i:=5) rfl (by kernel_rfl) rfl (fun K hK=>?_)
 go_simp
 have hb2:=hS.bl.size
 clear hS
 have hS:=hS4
 clear hS4
 refine (lA _ _ _ _ _ hS.jf hqf hlf).mono ?_
 rintro e w6 ⟨q2,d2,rfl,hI2,hb6⟩
 have hS6:=hS.below hb6
 have hL:cI w.heap.size w6 (.slice q1 al.length d1) (.slice q2 fl.length d2) al fl:=⟨(hI1.below hb6).base hb2,hI2.base hS.bl.size,fun k h1 h2=>by
  have a1:=(aw hI1 h1).2.1
  have a2:=(aw hI2 h2).1
  omega⟩
 refine hK _ _ (fun _ _=>hS6) ?_
 clear hK K hS hI1 hI2 hb4 hb6 hb2
 have hS:=hS6
 clear hS6
 try simp only [Act.put,B_,BZ,B6,BV,BY,BW]
 refine af (i:=6) (v:=?vv3) rfl (by kernel_rfl) (fun _ _ _ h=>h) rfl ?hy3 ?rest3
 case hy3=>(intro wy;go_simp;try with_reducible rfl)
 try simp only [Act.put,B_,BZ,B6,BV,BY,BW]
 have hP:ee w6 (cm w6 (w.heap.size+1) (.slice q1 al.length d1) (.slice q2 fl.length d2)) (w.heap.size+1) _ #[.slice q1 al.length d1,.slice q2 fl.length d2]:=aU hS.s1
 have HL:=B8 (hL.put (u1:=.slice q1 al.length d1) (u2:=.slice q2 fl.length d2) hS.s1 (by decide))
 have hB:=hS.bl.trans (hP.below w.heap.size (by omega))
 have c0:=aa hS.s1 0
 have c1:=aa hS.s1 1
 have f0:=frozen_of_row w6 (w.heap.size+1) 0 _ _ hS.s1
 have f1:=frozen_of_row w6 (w.heap.size+1) 1 _ _ hS.s1
 clear hS hL
 refine an (i:=7) rfl (by kernel_rfl) rfl (fun K hK=>?_)
 go_simp
 change K _ (cm w6 (w.heap.size+1) (.slice q1 al.length d1) (.slice q2 fl.length d2))
 refine hK _ _ (fun h=>by cases h) ?_
 clear hK K c0 c1 f0 f1
 try simp only [Act.put,B_,BZ,B6,BV,BY,BW]
 refine aA (by kernel_rfl) ?_ _
 simp only [aI]
 go_wp2_with fail
 (try simp only [Exit.inBlock,Exit.then])
 refine bodyPost_ret (results_cell_row rfl _ _ (w.heap.size+1) _ _ (0,0) _ rfl hP.row Tryz.underlying41 rfl (by kernel_rfl)) rfl ?_
 exact ⟨_,_,rfl,HL.out,hB⟩
end Go.Proofs.YtnkgbocdpngldaaGreatDoor
