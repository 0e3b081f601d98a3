/- Lemmas of this claim. -/
import Derived.Test.YtnkgbocdpngldaaGreatDoorWMach
import Derived.Test.YtnkgbocdpngldaaGreatDoorWLock4
set_option linter.all false
set_option maxRecDepth 100000
set_option maxHeartbeats 8000000
namespace Go.Proofs.YtnkgbocdpngldaaGreatDoor
def eo (gs:List Gd) (i:Nat):Gd:=match gs[i]? with | some g=>g | none=>⟨ByteArray.empty,[]⟩
def ju (gs:List Gd) (i:Nat):Bool:=(gs.take i).any (fun x=>decide (x.name.data.toList=(eo gs i).name.data.toList))
def sS (gs:List Gd) (i:Nat):Bool:=(List.range (ag gs i).length).all (eV gs i)
def fR (gs:List Gd) (i:Nat):Bool:=(List.range (ag gs i).length).all (iJ (ag gs i) (ag gs i).length)
def cG (gs:List Gd) (i:Nat):Bool :=
 bG (eo gs i).name.data.toList&&!ju gs i&&(decide (1≤(ag gs i).length)&&decide ((ag gs i).length≤8))&&sS gs i&&fR gs i
def a8 (gs:List Gd):Bool:=(decide (1≤gs.length)&&decide (gs.length≤3))&&(List.range gs.length).all (cG gs)
def aO (gs:List Gd) (g k:Nat):Rg:=match (ag gs g)[k]? with | some r=>r | none=>⟨ByteArray.empty,ByteArray.empty,ByteArray.empty,0,0,[],[]⟩
def gO (gs:List Gd) (n:Nd):Nat×List Int:=(n.guard.toNat,n.rungs.map (fun s=>aG (ag gs n.guard.toNat) s.data.toList))
def ah (gs:List Gd):aB where
 n:=gs.length
 rungs g:=(ag gs g).length
 next g k:=aG (ag gs g) (aO gs g k).next.data.toList
 back g k:=aG (ag gs g) (aO gs g k).back.data.toList
 needs g k:=(aO gs g k).needs.map (gO gs)
 tries g k:=(aO gs g k).tries
 mins g k:=(aO gs g k).minutes
theorem bN {gs:List Gd} (h:a8 gs=true):1≤gs.length∧gs.length≤3:=by
 unfold a8 at h
 simp only[Dv,decide_eq_true_eq] at h
 exact h.1
theorem bC {gs:List Gd} (h:a8 gs=true) {i:Nat} (hi:i<gs.length):cG gs i=true:=by
 unfold a8 at h
 simp only[Dv] at h
 exact DO.1 h.2 i (DG.2 hi)
theorem cT {gs:List Gd}{i:Nat} (h:cG gs i=true):1≤(ag gs i).length∧(ag gs i).length≤8:=by
 unfold cG at h
 simp only[Dv,decide_eq_true_eq] at h
 exact h.1.1.2
theorem eM {gs:List Gd}{i k:Nat} (h:cG gs i=true) (hk:k<(ag gs i).length):bR gs i k (ag gs i) (aO gs i k)=true:=by
 unfold cG at h
 simp only[Dv] at h
 have:=DO.1 h.1.2 k (DG.2 hk)
 unfold eV at this
 unfold aO
 rw[Dq hk] at this ⊢
 exact this
theorem aV {gs:List Gd} (h:a8 gs=true):(ah gs).Good:=by
 obtain⟨h1,h3⟩:=bN h
 have HR:∀ g k,g<gs.length→k<(ag gs g).length→cY (ag gs g) k (aO gs g k)=true∧bY (ag gs g) k (aO gs g k)=true∧eA gs g (aO gs g k).needs=true:=by
  intro g k hg hk
  have:=eM (bC h hg) hk
  unfold bR at this
  simp only[Dv] at this
  exact⟨this.1.1.1,this.1.1.2,this.1.2⟩
 have HW:∀ g k,g<gs.length→k<(ag gs g).length→0≤(ah gs).back g k∧(0<k→(ah gs).back g k<k)∧(k=0→(ah gs).back g 0=0∧(ah gs).needs g 0=[]):=by
  intro g k hg hk
  have hw:=(HR g k hg hk).2.1
  unfold bY at hw
  show 0≤aG (ag gs g) (aO gs g k).back.data.toList∧(0<k→aG (ag gs g) (aO gs g k).back.data.toList<k)∧(k=0→aG (ag gs g) (aO gs g 0).back.data.toList=0∧(aO gs g 0).needs.map (gO gs)=[])
  generalize hz:aG (ag gs g) (aO gs g k).back.data.toList=z at hw ⊢
  simp only[Fm,Fs,EP,decide_eq_false_iff_not,Bool.not_eq_false',decide_eq_true_eq] at hw
  obtain⟨⟨⟨_,hb⟩,hc⟩,hd⟩:=hw
  refine⟨by omega,fun hk0=>by omega,fun hk0=>?_⟩
  subst hk0
  rw[hz]
  have hd2:z=0∧(aO gs g 0).needs.length=0:=by omega
  exact⟨hd2.1,by rw[List.length_eq_zero_iff.1 hd2.2];rfl⟩
 refine⟨h1,h3,fun g hg=>(cT (bC h hg)).1,fun g hg=>(cT (bC h hg)).2,fun g k hg hk=>bI _ _,fun g k hg hk=>(HW g k hg hk).1,fun g k hg hk hk0=>(HW g k hg hk).2.1 hk0,
  fun g hg=>((HW g 0 hg (cT (bC h hg)).1).2.2 rfl).1,fun g hg=>((HW g 0 hg (cT (bC h hg)).1).2.2 rfl).2,fun g k hg hk x hx=>?_,fun g k hg hk=>?_,fun g k hg hk=>?_⟩
 ·obtain⟨n,hn,rfl⟩:=DY.1 hx
  have hN:=(HR g k hg hk).2.2
  obtain⟨j,hj,e⟩:=Em.1 hn
  have:=DO.1 hN j (DG.2 hj)
  unfold dj at this
  rw[Dq hj,e] at this
  simp only[Dv] at this
  have h4:=this.1
  unfold d9 at h4
  simp only[Dv,decide_eq_true_eq] at h4
  show n.guard.toNat<g
  omega
 ·have hS:=(HR g k hg hk).1
  unfold cY at hS
  simp only[Dv,decide_eq_true_eq] at hS
  exact hS.1.2
 ·have hS:=(HR g k hg hk).1
  unfold cY at hS
  simp only[Dv,decide_eq_true_eq] at hS
  exact hS.2
open Go.RowKit Dc Dg
theorem Bd (g:ByteArray) (q:Option Addr) (n cq:Nat) (s:ByteArray) (k:Nat) (w:World) (hk:k<w.heap.size) (hc:w.cell? ⟨k,0,none⟩=some (.string s)) :
  Calls Tryz.prog 69 #[.agg #[.string g,.slice q n cq],.pointer (some ⟨k,0,none⟩)] w fun e w'=>∃ b:Bool,e=.returned (.bool b)∧Hid (decide (g.data.toList=s.data.toList)=b)∧Below w.heap.size w w':=by
 go_enter Tryz.func69,Tryz.ntmps69
 go_wp2
 go_ret
 refine⟨_,rfl,?_,(Below.refl _ _).alloc (Dp _) _⟩
 unfold Hid
 rw[←aj,←aj,Ep]
 simp
def mc (l:List Gd) (s:List UInt8):Bool:=l.any (fun x=>decide (x.name.data.toList=s))
theorem vU {gs:List Gd}{n i:Nat}{s:List UInt8} (hi:i<gs.length) (hn:i<n) (h:gs[i].name.data.toList=s):mc (gs.take n) s=true:=by
 unfold mc
 rw[FG]
 refine⟨gs[i],?_,by simp[h]⟩
 rw[Em]
 exact⟨i,by simp;omega,by simp⟩
theorem tM {gs:List Gd}{i:Nat}{s:List UInt8} (hi:i<gs.length) (h:mc (gs.take i) s=false) (h2:¬ gs[i].name.data.toList=s):mc (gs.take (i+1)) s=false:=by
 unfold mc at h ⊢
 rw[D3,Dq hi,FL,h]
 simp[h2]
theorem uf (p:Option Addr) (c:Nat) (gs:List Gd) (n:Nat) (s:ByteArray) (k:Nat) (w:World) (hl:bE w p gs) (hn:gs.length≤1000) (hng:n≤gs.length) (hk:k<w.heap.size) (hc:w.cell? ⟨k,0,none⟩=some (.string s)) :
  Calls Tryz.prog 90 #[.slice p n c,.func (.func 69) #[] #[.pointer (some ⟨k,0,none⟩)]] w fun e w'=>∃ z:Int,e=.returned (.int .i64 z)∧Hid (mc (gs.take n) s.data.toList=decide (0≤z))∧Below w.heap.size w w':=by
 go_enter Tryz.func90,Tryz.ntmps90
 go_wp2_with fail
 go_loopw [8] (fun s8 wr=>∃ i:Nat,s8=.int .i64 i∧i≤n∧bE wr p gs∧Below w.heap.size w wr∧Hid (mc (gs.take i) s.data.toList=false)) (fun s8 _=>n-(intOf s8).toNat)
 case atStart=>exact⟨0,rfl,by omega,hl,Below.refl _ _,rfl⟩
 case round =>
  clear hl
  obtain⟨i,rfl,hi,hl,hb,hx⟩:=hrel
  by_cases hil:i<n
  ·have hig:i<gs.length:=by omega
   obtain⟨b,o,rfl,hbw,hcs⟩:=hl.at_ (by omega)
   obtain⟨q,cq,e0,e1,hR⟩:=hcs i hig
   obtain⟨g,hge⟩:∃ g,g=gs[i]:=⟨_,rfl⟩
   rw[←hge] at e0 e1
   have HR:=Do hge
   have hk2:=Dr hk hb.size
   have hc2:=(hb.cell (p:=⟨k,0,none⟩) hk).trans hc
   clear hge hcs hR
   go_wp2_with fail
   refine (Bd g.name q g.rungs.length cq s k wr hk2 hc2).mono ?_
   rintro e w2 ⟨bb,rfl,hbb,hb2⟩
   have hb3:=hb.trans (hb2.mono hb.size)
   have hl2:=hl.below hb2
   clear hl hb2 e0 e1 hc2
   cases bb
   ·go_wp2
    go_roundw
    case rel=>exact⟨i+1,by go_num,by omega,hl2,hb3,tM hig hx.out (by rw[←HR.out];exact of_decide_eq_false hbb.out)⟩
    case measure=>simp[intOf];omega
   ·go_wp2
    go_ret
    exact⟨_,rfl,by unfold Hid;rw[vU hig hil (by rw[←HR.out];exact of_decide_eq_true hbb.out)];simp,hb3⟩
  ·have hie:i=n:=by omega
   subst hie
   clear hil hi
   go_wp2
   go_ret
   exact⟨-1,rfl,by unfold Hid;rw[hx.out];rfl,hb⟩
theorem o9 (p:Option Addr) (c:Nat) (gs:List Gd) (n:Nat) (s:ByteArray) (k:Nat) (w:World) (hl:bE w p gs) (hn:gs.length≤1000) (hng:n≤gs.length) (hk:k<w.heap.size) (hc:w.cell? ⟨k,0,none⟩=some (.string s)) :
  Calls Tryz.prog 68 #[.slice p n c,.func (.func 69) #[] #[.pointer (some ⟨k,0,none⟩)]] w (gF (mc (gs.take n) s.data.toList) w):=by
 go_enter Tryz.func68,Tryz.ntmps68
 go_wp2_with fail
 refine (uf p c gs n s k w hl hn hng hk hc).mono ?_
 rintro e w2 ⟨z,rfl,hz,hb⟩
 go_wp2
 go_ret
 exact⟨_,rfl,hz,hb⟩
structure CSt (w0 w:World) (k:Nat) (gs:List Gd) (p:Option Addr) (c:Nat):Prop where
 s0:w.cell? ⟨k,0,none⟩=some (.slice p gs.length c)
 lt:k<w.heap.size
 G:bE w p gs
 gx:Gx w
 bl:Below w0.heap.size w0 w
theorem CSt.below {w0 w w':World}{k:Nat}{gs:List Gd}{p:Option Addr}{c:Nat} (h:CSt w0 w k gs p c) (hb:Below w.heap.size w w'):CSt w0 w' k gs p c :=
 ⟨(hb.cell (p:=⟨k,0,none⟩) h.lt).trans h.s0,Dr h.lt hb.size,h.G.below hb,h.gx.below hb,h.bl.trans (hb.mono h.bl.size)⟩
theorem CSt.new (w:World) (gs:List Gd) (p:Option Addr) (c:Nat) (hG:bE w p gs) (hX:Gx w):CSt w (w.alloc (.cells #[.slice p gs.length c] 24)) w.heap.size gs p c:=by
 have hb:Below w.heap.size w (w.alloc (.cells #[.slice p gs.length c] 24)):=(Below.refl _ _).alloc (Dp _) _
 exact⟨an w _ _ 0 _ rfl,by simp,hG.below hb,hX.below hb,hb⟩
structure DSt (w0 w:World) (k kb:Nat) (gs:List Gd) (p:Option Addr) (c:Nat) (g:Gd) (q:Option Addr) (cq:Nat):Prop where
 C:CSt w0 w k gs p c
 t0:w.cell? ⟨kb,0,none⟩=some (.string g.name)
 t1:w.cell? ⟨kb,1,none⟩=some (.slice q g.rungs.length cq)
 lt:kb<w.heap.size
 R:cQ w q g.rungs
theorem DSt.below {w0 w w':World}{k kb:Nat}{gs:List Gd}{p:Option Addr}{c:Nat}{g:Gd}{q:Option Addr}{cq:Nat} (h:DSt w0 w k kb gs p c g q cq) (hb:Below w.heap.size w w'):DSt w0 w' k kb gs p c g q cq :=
 ⟨h.C.below hb,(hb.cell (p:=⟨kb,0,none⟩) h.lt).trans h.t0,(hb.cell (p:=⟨kb,1,none⟩) h.lt).trans h.t1,Dr h.lt hb.size,h.R.below hb⟩
structure AO (gs:List Gd):Prop where
 names:∀ g∈gs,g.name.size≤9223372036854775806
 rungs:∀ g∈gs,∀ r∈g.rungs,m9 r
 len:∀ g∈gs,g.rungs.length≤1000000000000000
theorem fe {gs:List Gd}{i:Nat} (hi:i<gs.length) (h:cG gs i=false):a8 gs=false:=by
 unfold a8
 rw[EP]
 right
 rw[EE]
 exact⟨i,DG.2 hi,by rw[h];exact DB⟩
theorem Ao {gs:List Gd} (h1:1≤gs.length) (h3:gs.length≤3) (h:(List.range gs.length).all (cG gs)=true):a8 gs=true:=by
 unfold a8
 rw[h,decide_eq_true h1,decide_eq_true h3];rfl
theorem tr {gs:List Gd} (h:¬ (1≤gs.length∧gs.length≤3)):a8 gs=false:=by
 unfold a8
 rw[EP,EP]
 left
 simp only[decide_eq_false_iff_not]
 omega
theorem ig {f:Nat→Bool}{n j:Nat} (hj:j<n) (h:f j=false):(List.range n).all f=false:=by
 rw[EE]
 exact⟨j,DG.2 hj,by rw[h];exact DB⟩
theorem sT {gs:List Gd}{i:Nat} (h:sS gs i=true):∀ j (h:j<(ag gs i).length),(ag gs i)[j].next.data.toList=[]∨0≤aG (ag gs i) (ag gs i)[j].next.data.toList:=by
 intro j hj
 have:=DO.1 h j (DG.2 hj)
 unfold eV at this
 rw[Dq hj] at this
 simp only at this
 unfold bR at this
 simp only[Dv] at this
 have hw:=this.1.1.2
 unfold bY at hw
 simp only[Fm,Fs,EP,decide_eq_false_iff_not,Bool.not_eq_false',decide_eq_true_eq] at hw
 rcases hw.1.1.1 with h | h
 ·exact Or.inl h
 ·exact Or.inr (F7.1 h)
theorem sj {gs:List Gd}{i:Nat} (h:bG (eo gs i).name.data.toList=false):cG gs i=false:=by unfold cG;rw[h];rfl
theorem qP {gs:List Gd}{i:Nat} (h:ju gs i=true):cG gs i=false:=by unfold cG;rw[h];simp
theorem ud {gs:List Gd}{i:Nat} (h:(decide (1≤(ag gs i).length)&&decide ((ag gs i).length≤8))=false):cG gs i=false:=by unfold cG;rw[h];simp
theorem ue {gs:List Gd}{i:Nat} (h:sS gs i=false):cG gs i=false:=by unfold cG;rw[h];simp
theorem si {gs:List Gd}{i:Nat} (h:fR gs i=false):cG gs i=false:=by unfold cG;rw[h];simp
theorem sk {gs:List Gd}{i:Nat} (h1:bG (eo gs i).name.data.toList=true) (h2:ju gs i=false) (h3:(decide (1≤(ag gs i).length)&&decide ((ag gs i).length≤8))=true) (h4:sS gs i=true) (h5:fR gs i=true):cG gs i=true:=by
 unfold cG;rw[h1,h2,h3,h4,h5];rfl
def lw (v:Bool) (n:Int) (w:World) (e:Ending) (w':World):Prop:=e=.returned (.int .i64 (if v then 0 else n))∧Below w.heap.size w w'
theorem vY (gs:List Gd) (p:Option Addr) (c:Nat) (w:World) (hG:bE w p gs) (hX:Gx w) (hF:AO gs) (hc1:gs.length≤c) (hc2:(c:Int)≤9223372036854775807) :
  Calls Tryz.prog 31 #[.agg #[.slice p gs.length c]] w (lw (a8 gs) 40 w):=by
 have S0:=CSt.new w gs p c hG hX
 have HF:=Do hF
 clear hG hX hF
 go_enter Tryz.func31,Tryz.ntmps31
 go_wp2_with fail
 generalize w.alloc (.cells #[.slice p gs.length c] 24)=w0 at S0 ⊢
 refine (dw _ _ _ _).mono ?_
 rintro e w1 ⟨bl,rfl,hbl,rfl⟩
 by_cases hlen:1≤gs.length∧gs.length≤3
 ·obtain rfl:bl=true:=by rw[←hbl.out];simp;omega
  clear hbl
  obtain⟨hl1,hl3⟩:=hlen
  have s0:=S0.s0
  go_wp2_with fail
  go_loopw [16] (fun s16 wx=>∃ i:Nat,s16=.int .i64 i∧i≤gs.length∧CSt w wx w.heap.size gs p c∧Hid ((List.range i).all (cG gs)=true)) (fun s16 _=>gs.length-(intOf s16).toNat)
  case atStart=>exact⟨0,rfl,by omega,S0,rfl⟩
  case round =>
   clear S0 s0
   obtain⟨i,rfl,hi,S,hx⟩:=hrel
   by_cases hil:i<gs.length
   ·obtain⟨b,o,rfl,hbw,hcs⟩:=S.G.at_ (by omega)
    obtain⟨q,cq,e0,e1,hR⟩:=hcs i hil
    obtain⟨g,hge⟩:∃ g,g=gs[i]:=⟨_,rfl⟩
    rw[←hge] at e0 e1 hR
    have hgm:g∈gs:=by rw[hge];exact DH hil
    have hra:ag gs i=g.rungs:=by unfold ag;rw[Dq hil,hge]
    have hga:eo gs i=g:=by unfold eo;rw[Dq hil,hge]
    have HRA:=Do hra
    have HGA:=Do hga
    have HR:=Do hR
    have hnm:g.name.size≤9223372036854775806:=HF.out.names g hgm
    have hrl:((g.rungs.length:Nat):Int)≤1000000000000000:=by have:=HF.out.len g hgm;omega
    clear hge hcs hra hga hR
    have hbA:Below wr.heap.size wr (wr.alloc (.cells #[.string g.name,.slice q g.rungs.length cq] 62)):=(Below.refl _ _).alloc (Dp _) _
    have t0:=an wr #[.string g.name,.slice q g.rungs.length cq] 62 0 _ rfl
    have t1:=an wr #[.string g.name,.slice q g.rungs.length cq] 62 1 _ rfl
    have S1:=S.below hbA
    have HR1:=Do (HR.out.below hbA)
    have hta:wr.heap.size<(wr.alloc (.cells #[.string g.name,.slice q g.rungs.length cq] 62)).heap.size:=by simp
    have s0:=(hbA.cell (p:=⟨w.heap.size,0,none⟩) S.lt).trans S.s0
    clear HR hbA
    have hic:(i:Int)≤(c:Int):=by omega
    go_wp2_with fail
    generalize wr.alloc (.cells #[.string g.name,.slice q g.rungs.length cq] 62)=wa at S1 HR1 t0 t1 hta s0 ⊢
    generalize wr.heap.size=kb at t0 t1 hta ⊢
    refine (o9 (some ⟨b,o,none⟩) c gs i g.name kb wa S1.G (by omega) (by omega) hta t0).mono ?_
    rintro e w2 ⟨tw,rfl,htw,hb2⟩
    have D2:DSt w w2 w.heap.size kb gs (some ⟨b,o,none⟩) c g q cq:=(DSt.mk S1 t0 t1 hta HR1.out).below hb2
    clear S S1 t0 t1 hta HR1 s0 hb2 e0 e1
    have HTW:=Do (show ju gs i=tw by unfold ju;rw[HGA.out];exact htw.out)
    clear htw
    have t0:=D2.t0
    go_wp2_with fail
    refine (BR g.name w2 hnm).mono ?_
    rintro e w3 ⟨bn,rfl,hbn,rfl⟩
    cases bn
    ·have HBN:=Do hbn.out
     clear hbn
     go_wp2
     go_ret
     exact⟨by rw[fe hil (sj (by rw[HGA.out];exact HBN.out))];rfl,D2.C.bl⟩
    ·have HBN:=Do hbn.out
     clear hbn t0
     cases tw
     ·have t1:=D2.t1
      go_wp2_with fail
      refine (dw _ _ _ _).mono ?_
      rintro e w3 ⟨bm,rfl,hbm,rfl⟩
      cases bm
      ·have HBM:=Do (show (decide (1≤(ag gs i).length)&&decide ((ag gs i).length≤8))=false by rw[HRA.out,←hbm.out];congr 1<;>(rw[decide_eq_decide];omega))
       clear hbm
       go_wp2
       go_ret
       exact⟨by rw[fe hil (ud HBM.out)];rfl,D2.C.bl⟩
      ·have HBM:=Do (show (decide (1≤(ag gs i).length)&&decide ((ag gs i).length≤8))=true by rw[HRA.out,←hbm.out];congr 1<;>(rw[decide_eq_decide];omega))
       clear hbm
       have HRS:=Do (show ∀ j,j≤i→(ag gs j).length<1000000 from fun j hj=>by
        rcases Eb j i with h | h
        ·have:=(cT (DO.1 hx.out j (DG.2 h))).2;omega
        ·obtain rfl:j=i:=by omega
         have:=HBM.out
         simp only[Dv,decide_eq_true_eq] at this
         omega)
       have h8:g.rungs.length≤8:=by
        have:=HBM.out
        rw[HRA.out] at this
        simp only[Dv,decide_eq_true_eq] at this
        omega
       have HFI:=Do (show ∀ r∈ag gs i,m9 r by rw[HRA.out];exact HF.out.rungs g hgm)
       go_wp2_with fail
       go_loopw [44] (fun s44 wx=>∃ k:Nat,s44=.int .i64 k∧k≤g.rungs.length∧DSt w wx w.heap.size kb gs (some ⟨b,o,none⟩) c g q cq∧Hid ((List.range k).all (eV gs i)=true)) (fun s44 _=>g.rungs.length-(intOf s44).toNat)
       case atStart=>exact⟨0,rfl,by omega,D2,rfl⟩
       case round =>
        clear D2 t1
        obtain⟨k,rfl,hk,D,hy⟩:=hrel
        by_cases hkl:k<g.rungs.length
        ·have s0:=D.C.s0
         go_wp2_with fail
         refine (Bs gs (some ⟨b,o,none⟩) c i k _ D.C.G D.C.gx hil (by rw[HRA.out];exact hkl) (by omega) HRS.out HFI.out).mono ?_
         rintro e w4 ⟨bk,rfl,hbk,hb4⟩
         have D4:=D.below hb4
         clear D hb4 s0
         cases bk
         ·have HBK:=Do hbk.out
          clear hbk
          go_wp2
          go_ret
          exact⟨by rw[fe hil (ue (ig (by rw[HRA.out];exact hkl) HBK.out))];rfl,D4.C.bl⟩
         ·have HBK:=Do hbk.out
          clear hbk
          go_wp2
          go_roundw
          case rel=>exact⟨k+1,by go_num,by omega,D4,bH hy.out HBK.out⟩
          case measure=>simp[intOf];omega
        ·obtain rfl:k=g.rungs.length:=by omega
         have HOK:=Do (show sS gs i=true by unfold sS;rw[HRA.out];exact hy.out)
         have HNX:=Do (sT HOK.out)
         clear hkl hk hy
         have t1:=D.t1
         go_wp2_with fail
         go_loopw [56] (fun s56 wx=>∃ k:Nat,s56=.int .i64 k∧k≤g.rungs.length∧DSt w wx w.heap.size kb gs (some ⟨b,o,none⟩) c g q cq∧Hid ((List.range k).all (iJ (ag gs i) (ag gs i).length)=true)) (fun s56 _=>g.rungs.length-(intOf s56).toNat)
         case atStart=>exact⟨0,rfl,by omega,D,rfl⟩
         case round =>
          clear D t1
          obtain⟨k,rfl,hk,D,hy⟩:=hrel
          by_cases hkl:k<g.rungs.length
          ·have t0:=D.t0;have t1:=D.t1
           go_wp2_with fail
           refine (CV g.name q cq g.rungs k _ D.R (by omega) hkl (by rw[←HRA.out];exact HNX.out)).mono ?_
           rintro e w4 ⟨bk,rfl,hbk,hb4⟩
           have D4:=D.below hb4
           clear D hb4 t0 t1
           cases bk
           ·have HBK:=Do hbk.out
            clear hbk
            go_wp2
            go_ret
            exact⟨by rw[fe hil (si (ig (j:=k) (by rw[HRA.out];exact hkl) (by rw[HRA.out];exact HBK.out)))];rfl,D4.C.bl⟩
           ·have HBK:=Do hbk.out
            clear hbk
            go_wp2
            go_roundw
            case rel=>exact⟨k+1,by go_num,by omega,D4,bH hy.out (by rw[HRA.out];exact HBK.out)⟩
            case measure=>simp[intOf];omega
          ·obtain rfl:k=g.rungs.length:=by omega
           have HEN:=Do (show fR gs i=true by unfold fR;have:=hy.out;rw[HRA.out] at this ⊢;exact this)
           have HGD:=Do (sk (by rw[HGA.out];exact HBN.out) HTW.out HBM.out HOK.out HEN.out)
           clear hkl hk hy
           go_wp2
           go_roundw
           case rel=>exact⟨i+1,by go_num,by omega,D.C,bH hx.out HGD.out⟩
           case measure=>simp[intOf];omega
     ·go_wp2
      go_ret
      exact⟨by rw[fe hil (qP HTW.out)];rfl,D2.C.bl⟩
   ·have hie:i=gs.length:=by omega
    subst hie
    clear hil hi
    have HX:=Do (Ao hl1 hl3 hx.out)
    clear hx
    go_wp2
    go_ret
    exact⟨by rw[HX.out];rfl,S.bl⟩
 ·obtain rfl:bl=false:=by rw[←hbl.out];simp;omega
  clear hbl
  have HX:=Do (tr hlen)
  clear hlen
  go_wp2
  go_ret
  exact⟨by rw[HX.out];rfl,S0.bl⟩
end Go.Proofs.YtnkgbocdpngldaaGreatDoor
