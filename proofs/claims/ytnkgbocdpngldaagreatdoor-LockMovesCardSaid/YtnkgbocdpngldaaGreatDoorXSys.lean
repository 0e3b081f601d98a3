/- Lemmas of this claim. -/
import Derived.Test.YtnkgbocdpngldaaGreatDoorXMach
import Derived.Test.YtnkgbocdpngldaaGreatDoorXLock4
set_option linter.all false
set_option maxRecDepth 100000
set_option maxHeartbeats 8000000
namespace Go.Proofs.YtnkgbocdpngldaaGreatDoor
def ej (gs:List Gd) (i:Nat):Gd:=match gs[i]? with | some g=>g | none=>⟨ByteArray.empty,[]⟩
def jc (gs:List Gd) (i:Nat):Bool:=(gs.take i).any (fun x=>decide (x.name.data.toList=(ej gs i).name.data.toList))
def sj (gs:List Gd) (i:Nat):Bool:=(List.range (ag gs i).length).all (eT gs i)
def fE (gs:List Gd) (i:Nat):Bool:=(List.range (ag gs i).length).all (iw (ag gs i) (ag gs i).length)
def cC (gs:List Gd) (i:Nat):Bool :=
 bF (ej gs i).name.data.toList&&!jc gs i&&(decide (1≤(ag gs i).length)&&decide ((ag gs i).length≤8))&&sj gs i&&fE gs i
def aX (gs:List Gd):Bool:=(decide (1≤gs.length)&&decide (gs.length≤3))&&(List.range gs.length).all (cC gs)
def aK (gs:List Gd) (g k:Nat):Rg:=match (ag gs g)[k]? with | some r=>r | none=>⟨ByteArray.empty,ByteArray.empty,ByteArray.empty,0,0,[],[]⟩
def gE (gs:List Gd) (n:Nd):Nat×List Int:=(n.guard.toNat,n.rungs.map (fun s=>aE (ag gs n.guard.toNat) s.data.toList))
def ah (gs:List Gd):aH where
 n:=gs.length
 rungs g:=(ag gs g).length
 next g k:=aE (ag gs g) (aK gs g k).next.data.toList
 back g k:=aE (ag gs g) (aK gs g k).back.data.toList
 needs g k:=(aK gs g k).needs.map (gE gs)
 tries g k:=(aK gs g k).tries
 mins g k:=(aK gs g k).minutes
theorem a_ {gs:List Gd} (h:aX gs=true):1≤gs.length∧gs.length≤3:=by
 unfold aX at h
 simp only[Da,decide_eq_true_eq] at h
 exact h.1
theorem bC {gs:List Gd} (h:aX gs=true) {i:Nat} (hi:i<gs.length):cC gs i=true:=by
 unfold aX at h
 simp only[Da] at h
 exact Dq.1 h.2 i (Dv.2 hi)
theorem dc {gs:List Gd}{i:Nat} (h:cC gs i=true):1≤(ag gs i).length∧(ag gs i).length≤8:=by
 unfold cC at h
 simp only[Da,decide_eq_true_eq] at h
 exact h.1.1.2
theorem dT {gs:List Gd}{i k:Nat} (h:cC gs i=true) (hk:k<(ag gs i).length):bN gs i k (ag gs i) (aK gs i k)=true:=by
 unfold cC at h
 simp only[Da] at h
 have:=Dq.1 h.1.2 k (Dv.2 hk)
 unfold eT at this
 unfold aK
 rw[C7 hk] at this ⊢
 exact this
theorem bD {gs:List Gd} (h:aX gs=true):(ah gs).Good:=by
 obtain⟨h1,h3⟩:=a_ h
 have HR:∀ g k,g<gs.length→k<(ag gs g).length→cS (ag gs g) k (aK gs g k)=true∧bV (ag gs g) k (aK gs g k)=true∧ez gs g (aK gs g k).needs=true:=by
  intro g k hg hk
  have:=dT (bC h hg) hk
  unfold bN at this
  simp only[Da] at this
  exact⟨this.1.1.1,this.1.1.2,this.1.2⟩
 have HW:∀ g k,g<gs.length→k<(ag gs g).length→0≤(ah gs).back g k∧(0<k→(ah gs).back g k<k)∧(k=0→(ah gs).back g 0=0∧(ah gs).needs g 0=[]):=by
  intro g k hg hk
  have hw:=(HR g k hg hk).2.1
  unfold bV at hw
  show 0≤aE (ag gs g) (aK gs g k).back.data.toList∧(0<k→aE (ag gs g) (aK gs g k).back.data.toList<k)∧(k=0→aE (ag gs g) (aK gs g 0).back.data.toList=0∧(aK gs g 0).needs.map (gE gs)=[])
  generalize hz:aE (ag gs g) (aK gs g k).back.data.toList=z at hw ⊢
  simp only[EP,Fa,Ep,decide_eq_false_iff_not,Bool.not_eq_false',decide_eq_true_eq] at hw
  obtain⟨⟨⟨_,hb⟩,hc⟩,hd⟩:=hw
  refine⟨by omega,fun hk0=>by omega,fun hk0=>?_⟩
  subst hk0
  rw[hz]
  have hd2:z=0∧(aK gs g 0).needs.length=0:=by omega
  exact⟨hd2.1,by rw[List.length_eq_zero_iff.1 hd2.2];rfl⟩
 refine⟨h1,h3,fun g hg=>(dc (bC h hg)).1,fun g hg=>(dc (bC h hg)).2,fun g k hg hk=>bH _ _,fun g k hg hk=>(HW g k hg hk).1,fun g k hg hk hk0=>(HW g k hg hk).2.1 hk0,
  fun g hg=>((HW g 0 hg (dc (bC h hg)).1).2.2 rfl).1,fun g hg=>((HW g 0 hg (dc (bC h hg)).1).2.2 rfl).2,fun g k hg hk x hx=>?_,fun g k hg hk=>?_,fun g k hg hk=>?_⟩
 ·obtain⟨n,hn,rfl⟩:=DO.1 hx
  have hN:=(HR g k hg hk).2.2
  obtain⟨j,hj,e⟩:=D0.1 hn
  have:=Dq.1 hN j (Dv.2 hj)
  unfold de at this
  rw[C7 hj,e] at this
  simp only[Da] at this
  have h4:=this.1
  unfold dZ at h4
  simp only[Da,decide_eq_true_eq] at h4
  show n.guard.toNat<g
  omega
 ·have hS:=(HR g k hg hk).1
  unfold cS at hS
  simp only[Da,decide_eq_true_eq] at hS
  exact hS.1.2
 ·have hS:=(HR g k hg hk).1
  unfold cS at hS
  simp only[Da,decide_eq_true_eq] at hS
  exact hS.2
open Go.RowKit Dc Dg
theorem A1 (g:ByteArray) (q:Option Addr) (n cq:Nat) (s:ByteArray) (k:Nat) (w:World) (hk:k<w.heap.size) (hc:w.cell? ⟨k,0,none⟩=some (.string s)) :
  Calls Tryz.prog 69 #[.agg #[.string g,.slice q n cq],.pointer (some ⟨k,0,none⟩)] w fun e w'=>∃ b:Bool,e=.returned (.bool b)∧Hid (decide (g.data.toList=s.data.toList)=b)∧Below w.heap.size w w':=by
 go_enter Tryz.func69,Tryz.ntmps69
 go_wp2
 go_ret
 refine⟨_,rfl,?_,(Below.refl _ _).alloc (C6 _) _⟩
 unfold Hid
 rw[←aj,←aj,D6]
 simp
def lS (l:List Gd) (s:List UInt8):Bool:=l.any (fun x=>decide (x.name.data.toList=s))
theorem vA {gs:List Gd}{n i:Nat}{s:List UInt8} (hi:i<gs.length) (hn:i<n) (h:gs[i].name.data.toList=s):lS (gs.take n) s=true:=by
 unfold lS
 rw[Fp]
 refine⟨gs[i],?_,by simp[h]⟩
 rw[D0]
 exact⟨i,by simp;omega,by simp⟩
theorem ti {gs:List Gd}{i:Nat}{s:List UInt8} (hi:i<gs.length) (h:lS (gs.take i) s=false) (h2:¬ gs[i].name.data.toList=s):lS (gs.take (i+1)) s=false:=by
 unfold lS at h ⊢
 rw[DH,C7 hi,Ft,h]
 simp[h2]
theorem tJ (p:Option Addr) (c:Nat) (gs:List Gd) (n:Nat) (s:ByteArray) (k:Nat) (w:World) (hl:bE w p gs) (hn:gs.length≤1000) (hng:n≤gs.length) (hk:k<w.heap.size) (hc:w.cell? ⟨k,0,none⟩=some (.string s)) :
  Calls Tryz.prog 90 #[.slice p n c,.func (.func 69) #[] #[.pointer (some ⟨k,0,none⟩)]] w fun e w'=>∃ z:Int,e=.returned (.int .i64 z)∧Hid (lS (gs.take n) s.data.toList=decide (0≤z))∧Below w.heap.size w w':=by
 go_enter Tryz.func90,Tryz.ntmps90
 go_wp2_with fail
 go_loopw [8] (fun s8 wr=>∃ i:Nat,s8=.int .i64 i∧i≤n∧bE wr p gs∧Below w.heap.size w wr∧Hid (lS (gs.take i) s.data.toList=false)) (fun s8 _=>n-(intOf s8).toNat)
 case atStart=>exact⟨0,rfl,by omega,hl,Below.refl _ _,rfl⟩
 case round =>
  clear hl
  obtain⟨i,rfl,hi,hl,hb,hx⟩:=hrel
  by_cases hil:i<n
  ·have hig:i<gs.length:=by omega
   obtain⟨b,o,rfl,hbw,hcs⟩:=hl.at_ (by omega)
   obtain⟨q,cq,e0,e1,hR⟩:=hcs i hig
   obtain⟨g,hge⟩:∃ g,g=gs[i]:=⟨_,rfl⟩
   rw[←hge] at e0 e1
   have HR:=C5 hge
   have hk2:=C8 hk hb.size
   have hc2:=(hb.cell (p:=⟨k,0,none⟩) hk).trans hc
   clear hge hcs hR
   go_wp2_with fail
   refine (A1 g.name q g.rungs.length cq s k wr hk2 hc2).mono ?_
   rintro e w2 ⟨bb,rfl,hbb,hb2⟩
   have hb3:=hb.trans (hb2.mono hb.size)
   have hl2:=hl.below hb2
   clear hl hb2 e0 e1 hc2
   cases bb
   ·go_wp2
    go_roundw
    case rel=>exact⟨i+1,by go_num,by omega,hl2,hb3,ti hig hx.out (by rw[←HR.out];exact of_decide_eq_false hbb.out)⟩
    case measure=>simp[intOf];omega
   ·go_wp2
    go_ret
    exact⟨_,rfl,by unfold Hid;rw[vA hig hil (by rw[←HR.out];exact of_decide_eq_true hbb.out)];simp,hb3⟩
  ·have hie:i=n:=by omega
   subst hie
   clear hil hi
   go_wp2
   go_ret
   exact⟨-1,rfl,by unfold Hid;rw[hx.out];rfl,hb⟩
theorem oC (p:Option Addr) (c:Nat) (gs:List Gd) (n:Nat) (s:ByteArray) (k:Nat) (w:World) (hl:bE w p gs) (hn:gs.length≤1000) (hng:n≤gs.length) (hk:k<w.heap.size) (hc:w.cell? ⟨k,0,none⟩=some (.string s)) :
  Calls Tryz.prog 68 #[.slice p n c,.func (.func 69) #[] #[.pointer (some ⟨k,0,none⟩)]] w (gl (lS (gs.take n) s.data.toList) w):=by
 go_enter Tryz.func68,Tryz.ntmps68
 go_wp2_with fail
 refine (tJ p c gs n s k w hl hn hng hk hc).mono ?_
 rintro e w2 ⟨z,rfl,hz,hb⟩
 go_wp2
 go_ret
 exact⟨_,rfl,hz,hb⟩
structure CSt (w0 w:World) (k:Nat) (gs:List Gd) (p:Option Addr) (c:Nat):Prop where
 s0:w.cell? ⟨k,0,none⟩=some (.slice p gs.length c)
 lt:k<w.heap.size
 G:bE w p gs
 gx:Gx w
 bl:Below w0.heap.size w0 w
theorem CSt.below {w0 w w':World}{k:Nat}{gs:List Gd}{p:Option Addr}{c:Nat} (h:CSt w0 w k gs p c) (hb:Below w.heap.size w w'):CSt w0 w' k gs p c :=
 ⟨(hb.cell (p:=⟨k,0,none⟩) h.lt).trans h.s0,C8 h.lt hb.size,h.G.below hb,h.gx.below hb,h.bl.trans (hb.mono h.bl.size)⟩
theorem CSt.new (w:World) (gs:List Gd) (p:Option Addr) (c:Nat) (hG:bE w p gs) (hX:Gx w):CSt w (w.alloc (.cells #[.slice p gs.length c] 24)) w.heap.size gs p c:=by
 have hb:Below w.heap.size w (w.alloc (.cells #[.slice p gs.length c] 24)):=(Below.refl _ _).alloc (C6 _) _
 exact⟨an w _ _ 0 _ rfl,by simp,hG.below hb,hX.below hb,hb⟩
structure DSt (w0 w:World) (k kb:Nat) (gs:List Gd) (p:Option Addr) (c:Nat) (g:Gd) (q:Option Addr) (cq:Nat):Prop where
 C:CSt w0 w k gs p c
 t0:w.cell? ⟨kb,0,none⟩=some (.string g.name)
 t1:w.cell? ⟨kb,1,none⟩=some (.slice q g.rungs.length cq)
 lt:kb<w.heap.size
 R:cT w q g.rungs
theorem DSt.below {w0 w w':World}{k kb:Nat}{gs:List Gd}{p:Option Addr}{c:Nat}{g:Gd}{q:Option Addr}{cq:Nat} (h:DSt w0 w k kb gs p c g q cq) (hb:Below w.heap.size w w'):DSt w0 w' k kb gs p c g q cq :=
 ⟨h.C.below hb,(hb.cell (p:=⟨kb,0,none⟩) h.lt).trans h.t0,(hb.cell (p:=⟨kb,1,none⟩) h.lt).trans h.t1,C8 h.lt hb.size,h.R.below hb⟩
structure Az (gs:List Gd):Prop where
 names:∀ g∈gs,g.name.size≤9223372036854775806
 rungs:∀ g∈gs,∀ r∈g.rungs,mK r
 len:∀ g∈gs,g.rungs.length≤1000000000000000
theorem eX {gs:List Gd}{i:Nat} (hi:i<gs.length) (h:cC gs i=false):aX gs=false:=by
 unfold aX
 rw[Ep]
 right
 rw[Ee]
 exact⟨i,Dv.2 hi,by rw[h];exact Dl⟩
theorem Ab {gs:List Gd} (h1:1≤gs.length) (h3:gs.length≤3) (h:(List.range gs.length).all (cC gs)=true):aX gs=true:=by
 unfold aX
 rw[h,decide_eq_true h1,decide_eq_true h3];rfl
theorem sN {gs:List Gd} (h:¬ (1≤gs.length∧gs.length≤3)):aX gs=false:=by
 unfold aX
 rw[Ep,Ep]
 left
 simp only[decide_eq_false_iff_not]
 omega
theorem gX {f:Nat→Bool}{n j:Nat} (hj:j<n) (h:f j=false):(List.range n).all f=false:=by
 rw[Ee]
 exact⟨j,Dv.2 hj,by rw[h];exact Dl⟩
theorem sk {gs:List Gd}{i:Nat} (h:sj gs i=true):∀ j (h:j<(ag gs i).length),(ag gs i)[j].next.data.toList=[]∨0≤aE (ag gs i) (ag gs i)[j].next.data.toList:=by
 intro j hj
 have:=Dq.1 h j (Dv.2 hj)
 unfold eT at this
 rw[C7 hj] at this
 simp only at this
 unfold bN at this
 simp only[Da] at this
 have hw:=this.1.1.2
 unfold bV at hw
 simp only[EP,Fa,Ep,decide_eq_false_iff_not,Bool.not_eq_false',decide_eq_true_eq] at hw
 rcases hw.1.1.1 with h | h
 ·exact Or.inl h
 ·exact Or.inr (Int.not_lt.1 h)
theorem rF {gs:List Gd}{i:Nat} (h:bF (ej gs i).name.data.toList=false):cC gs i=false:=by unfold cC;rw[h];rfl
theorem qr {gs:List Gd}{i:Nat} (h:jc gs i=true):cC gs i=false:=by unfold cC;rw[h];simp
theorem tH {gs:List Gd}{i:Nat} (h:(decide (1≤(ag gs i).length)&&decide ((ag gs i).length≤8))=false):cC gs i=false:=by unfold cC;rw[h];simp
theorem tI {gs:List Gd}{i:Nat} (h:sj gs i=false):cC gs i=false:=by unfold cC;rw[h];simp
theorem rE {gs:List Gd}{i:Nat} (h:fE gs i=false):cC gs i=false:=by unfold cC;rw[h];simp
theorem rG {gs:List Gd}{i:Nat} (h1:bF (ej gs i).name.data.toList=true) (h2:jc gs i=false) (h3:(decide (1≤(ag gs i).length)&&decide ((ag gs i).length≤8))=true) (h4:sj gs i=true) (h5:fE gs i=true):cC gs i=true:=by
 unfold cC;rw[h1,h2,h3,h4,h5];rfl
def ld (v:Bool) (n:Int) (w:World) (e:Ending) (w':World):Prop:=e=.returned (.int .i64 (if v then 0 else n))∧Below w.heap.size w w'
theorem vF (gs:List Gd) (p:Option Addr) (c:Nat) (w:World) (hG:bE w p gs) (hX:Gx w) (hF:Az gs) (hc1:gs.length≤c) (hc2:(c:Int)≤9223372036854775807) :
  Calls Tryz.prog 31 #[.agg #[.slice p gs.length c]] w (ld (aX gs) 40 w):=by
 have S0:=CSt.new w gs p c hG hX
 have HF:=C5 hF
 clear hG hX hF
 go_enter Tryz.func31,Tryz.ntmps31
 go_wp2_with fail
 generalize w.alloc (.cells #[.slice p gs.length c] 24)=w0 at S0 ⊢
 refine (dq _ _ _ _).mono ?_
 rintro e w1 ⟨bl,rfl,hbl,rfl⟩
 by_cases hlen:1≤gs.length∧gs.length≤3
 ·obtain rfl:bl=true:=by rw[←hbl.out];simp;omega
  clear hbl
  obtain⟨hl1,hl3⟩:=hlen
  have s0:=S0.s0
  go_wp2_with fail
  go_loopw [16] (fun s16 wx=>∃ i:Nat,s16=.int .i64 i∧i≤gs.length∧CSt w wx w.heap.size gs p c∧Hid ((List.range i).all (cC gs)=true)) (fun s16 _=>gs.length-(intOf s16).toNat)
  case atStart=>exact⟨0,rfl,by omega,S0,rfl⟩
  case round =>
   clear S0 s0
   obtain⟨i,rfl,hi,S,hx⟩:=hrel
   by_cases hil:i<gs.length
   ·obtain⟨b,o,rfl,hbw,hcs⟩:=S.G.at_ (by omega)
    obtain⟨q,cq,e0,e1,hR⟩:=hcs i hil
    obtain⟨g,hge⟩:∃ g,g=gs[i]:=⟨_,rfl⟩
    rw[←hge] at e0 e1 hR
    have hgm:g∈gs:=by rw[hge];exact Dt hil
    have hra:ag gs i=g.rungs:=by unfold ag;rw[C7 hil,hge]
    have hga:ej gs i=g:=by unfold ej;rw[C7 hil,hge]
    have HRA:=C5 hra
    have HGA:=C5 hga
    have HR:=C5 hR
    have hnm:g.name.size≤9223372036854775806:=HF.out.names g hgm
    have hrl:((g.rungs.length:Nat):Int)≤1000000000000000:=by have:=HF.out.len g hgm;omega
    clear hge hcs hra hga hR
    have hbA:Below wr.heap.size wr (wr.alloc (.cells #[.string g.name,.slice q g.rungs.length cq] 62)):=(Below.refl _ _).alloc (C6 _) _
    have t0:=an wr #[.string g.name,.slice q g.rungs.length cq] 62 0 _ rfl
    have t1:=an wr #[.string g.name,.slice q g.rungs.length cq] 62 1 _ rfl
    have S1:=S.below hbA
    have HR1:=C5 (HR.out.below hbA)
    have hta:wr.heap.size<(wr.alloc (.cells #[.string g.name,.slice q g.rungs.length cq] 62)).heap.size:=by simp
    have s0:=(hbA.cell (p:=⟨w.heap.size,0,none⟩) S.lt).trans S.s0
    clear HR hbA
    have hic:(i:Int)≤(c:Int):=by omega
    go_wp2_with fail
    generalize wr.alloc (.cells #[.string g.name,.slice q g.rungs.length cq] 62)=wa at S1 HR1 t0 t1 hta s0 ⊢
    generalize wr.heap.size=kb at t0 t1 hta ⊢
    refine (oC (some ⟨b,o,none⟩) c gs i g.name kb wa S1.G (by omega) (by omega) hta t0).mono ?_
    rintro e w2 ⟨tw,rfl,htw,hb2⟩
    have D2:DSt w w2 w.heap.size kb gs (some ⟨b,o,none⟩) c g q cq:=(DSt.mk S1 t0 t1 hta HR1.out).below hb2
    clear S S1 t0 t1 hta HR1 s0 hb2 e0 e1
    have HTW:=C5 (show jc gs i=tw by unfold jc;rw[HGA.out];exact htw.out)
    clear htw
    have t0:=D2.t0
    go_wp2_with fail
    refine (BA g.name w2 hnm).mono ?_
    rintro e w3 ⟨bn,rfl,hbn,rfl⟩
    cases bn
    ·have HBN:=C5 hbn.out
     clear hbn
     go_wp2
     go_ret
     exact⟨by rw[eX hil (rF (by rw[HGA.out];exact HBN.out))];rfl,D2.C.bl⟩
    ·have HBN:=C5 hbn.out
     clear hbn t0
     cases tw
     ·have t1:=D2.t1
      go_wp2_with fail
      refine (dq _ _ _ _).mono ?_
      rintro e w3 ⟨bm,rfl,hbm,rfl⟩
      cases bm
      ·have HBM:=C5 (show (decide (1≤(ag gs i).length)&&decide ((ag gs i).length≤8))=false by rw[HRA.out,←hbm.out];congr 1<;>(rw[decide_eq_decide];omega))
       clear hbm
       go_wp2
       go_ret
       exact⟨by rw[eX hil (tH HBM.out)];rfl,D2.C.bl⟩
      ·have HBM:=C5 (show (decide (1≤(ag gs i).length)&&decide ((ag gs i).length≤8))=true by rw[HRA.out,←hbm.out];congr 1<;>(rw[decide_eq_decide];omega))
       clear hbm
       have HRS:=C5 (show ∀ j,j≤i→(ag gs j).length<1000000 from fun j hj=>by
        rcases DP j i with h | h
        ·have:=(dc (Dq.1 hx.out j (Dv.2 h))).2;omega
        ·obtain rfl:j=i:=by omega
         have:=HBM.out
         simp only[Da,decide_eq_true_eq] at this
         omega)
       have h8:g.rungs.length≤8:=by
        have:=HBM.out
        rw[HRA.out] at this
        simp only[Da,decide_eq_true_eq] at this
        omega
       have HFI:=C5 (show ∀ r∈ag gs i,mK r by rw[HRA.out];exact HF.out.rungs g hgm)
       go_wp2_with fail
       go_loopw [44] (fun s44 wx=>∃ k:Nat,s44=.int .i64 k∧k≤g.rungs.length∧DSt w wx w.heap.size kb gs (some ⟨b,o,none⟩) c g q cq∧Hid ((List.range k).all (eT gs i)=true)) (fun s44 _=>g.rungs.length-(intOf s44).toNat)
       case atStart=>exact⟨0,rfl,by omega,D2,rfl⟩
       case round =>
        clear D2 t1
        obtain⟨k,rfl,hk,D,hy⟩:=hrel
        by_cases hkl:k<g.rungs.length
        ·have s0:=D.C.s0
         go_wp2_with fail
         refine (Bf gs (some ⟨b,o,none⟩) c i k _ D.C.G D.C.gx hil (by rw[HRA.out];exact hkl) (by omega) HRS.out HFI.out).mono ?_
         rintro e w4 ⟨bk,rfl,hbk,hb4⟩
         have D4:=D.below hb4
         clear D hb4 s0
         cases bk
         ·have HBK:=C5 hbk.out
          clear hbk
          go_wp2
          go_ret
          exact⟨by rw[eX hil (tI (gX (by rw[HRA.out];exact hkl) HBK.out))];rfl,D4.C.bl⟩
         ·have HBK:=C5 hbk.out
          clear hbk
          go_wp2
          go_roundw
          case rel=>exact⟨k+1,by go_num,by omega,D4,bG hy.out HBK.out⟩
          case measure=>simp[intOf];omega
        ·obtain rfl:k=g.rungs.length:=by omega
         have HOK:=C5 (show sj gs i=true by unfold sj;rw[HRA.out];exact hy.out)
         have HNX:=C5 (sk HOK.out)
         clear hkl hk hy
         have t1:=D.t1
         go_wp2_with fail
         go_loopw [56] (fun s56 wx=>∃ k:Nat,s56=.int .i64 k∧k≤g.rungs.length∧DSt w wx w.heap.size kb gs (some ⟨b,o,none⟩) c g q cq∧Hid ((List.range k).all (iw (ag gs i) (ag gs i).length)=true)) (fun s56 _=>g.rungs.length-(intOf s56).toNat)
         case atStart=>exact⟨0,rfl,by omega,D,rfl⟩
         case round =>
          clear D t1
          obtain⟨k,rfl,hk,D,hy⟩:=hrel
          by_cases hkl:k<g.rungs.length
          ·have t0:=D.t0;have t1:=D.t1
           go_wp2_with fail
           refine (CE g.name q cq g.rungs k _ D.R (by omega) hkl (by rw[←HRA.out];exact HNX.out)).mono ?_
           rintro e w4 ⟨bk,rfl,hbk,hb4⟩
           have D4:=D.below hb4
           clear D hb4 t0 t1
           cases bk
           ·have HBK:=C5 hbk.out
            clear hbk
            go_wp2
            go_ret
            exact⟨by rw[eX hil (rE (gX (j:=k) (by rw[HRA.out];exact hkl) (by rw[HRA.out];exact HBK.out)))];rfl,D4.C.bl⟩
           ·have HBK:=C5 hbk.out
            clear hbk
            go_wp2
            go_roundw
            case rel=>exact⟨k+1,by go_num,by omega,D4,bG hy.out (by rw[HRA.out];exact HBK.out)⟩
            case measure=>simp[intOf];omega
          ·obtain rfl:k=g.rungs.length:=by omega
           have HEN:=C5 (show fE gs i=true by unfold fE;have:=hy.out;rw[HRA.out] at this ⊢;exact this)
           have HGD:=C5 (rG (by rw[HGA.out];exact HBN.out) HTW.out HBM.out HOK.out HEN.out)
           clear hkl hk hy
           go_wp2
           go_roundw
           case rel=>exact⟨i+1,by go_num,by omega,D.C,bG hx.out HGD.out⟩
           case measure=>simp[intOf];omega
     ·go_wp2
      go_ret
      exact⟨by rw[eX hil (qr HTW.out)];rfl,D2.C.bl⟩
   ·have hie:i=gs.length:=by omega
    subst hie
    clear hil hi
    have HX:=C5 (Ab hl1 hl3 hx.out)
    clear hx
    go_wp2
    go_ret
    exact⟨by rw[HX.out];rfl,S.bl⟩
 ·obtain rfl:bl=false:=by rw[←hbl.out];simp;omega
  clear hbl
  have HX:=C5 (sN hlen)
  clear hlen
  go_wp2
  go_ret
  exact⟨by rw[HX.out];rfl,S0.bl⟩
end Go.Proofs.YtnkgbocdpngldaaGreatDoor
