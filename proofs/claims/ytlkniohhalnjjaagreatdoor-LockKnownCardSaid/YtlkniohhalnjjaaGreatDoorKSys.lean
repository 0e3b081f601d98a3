/- Lemmas of this claim. -/
import Derived.Test.YtlkniohhalnjjaaGreatDoorKMach
import Derived.Test.YtlkniohhalnjjaaGreatDoorKLock4
set_option linter.all false
set_option maxRecDepth 100000
set_option maxHeartbeats 8000000
namespace Go.Proofs.YtlkniohhalnjjaaGreatDoor
def fy (gs:List Gd) (i:Nat):Gd:=match gs[i]? with | some g=>g | none=>⟨ByteArray.empty,[]⟩
def jz (gs:List Gd) (i:Nat):Bool:=(gs.take i).any (fun x=>decide (x.name.data.toList=(fy gs i).name.data.toList))
def ph (gs:List Gd) (i:Nat):Bool:=(List.range (ac gs i).length).all (dH gs i)
def e_ (gs:List Gd) (i:Nat):Bool:=(List.range (ac gs i).length).all (fT (ac gs i) (ac gs i).length)
def bh (gs:List Gd) (i:Nat):Bool :=
 cF (fy gs i).name.data.toList&&!jz gs i&&(decide (1≤(ac gs i).length)&&decide ((ac gs i).length≤8))&&ph gs i&&e_ gs i
def aS (gs:List Gd):Bool:=(decide (1≤gs.length)&&decide (gs.length≤3))&&(List.range gs.length).all (bh gs)
def aP (gs:List Gd) (g k:Nat):Rg:=match (ac gs g)[k]? with | some r=>r | none=>⟨ByteArray.empty,ByteArray.empty,ByteArray.empty,0,0,[],[]⟩
def gS (gs:List Gd) (n:Nd):Nat×List Int:=(n.guard.toNat,n.rungs.map (fun s=>aD (ac gs n.guard.toNat) s.data.toList))
def ad (gs:List Gd):ar where
 n:=gs.length
 rungs g:=(ac gs g).length
 next g k:=aD (ac gs g) (aP gs g k).next.data.toList
 back g k:=aD (ac gs g) (aP gs g k).back.data.toList
 needs g k:=(aP gs g k).needs.map (gS gs)
 tries g k:=(aP gs g k).tries
 mins g k:=(aP gs g k).minutes
theorem bf {gs:List Gd} (h:aS gs=true):1≤gs.length∧gs.length≤3:=by
 unfold aS at h
 simp only[uz,decide_eq_true_eq] at h
 exact h.1
theorem aX {gs:List Gd} (h:aS gs=true) {i:Nat} (hi:i<gs.length):bh gs i=true:=by
 unfold aS at h
 simp only[uz] at h
 exact uM.1 h.2 i (uL.2 hi)
theorem bD {gs:List Gd}{i:Nat} (h:bh gs i=true):1≤(ac gs i).length∧(ac gs i).length≤8:=by
 unfold bh at h
 simp only[uz,decide_eq_true_eq] at h
 exact h.1.1.2
theorem gm {gs:List Gd}{i k:Nat} (h:bh gs i=true) (hk:k<(ac gs i).length):bd gs i k (ac gs i) (aP gs i k)=true:=by
 unfold bh at h
 simp only[uz] at h
 have:=uM.1 h.1.2 k (uL.2 hk)
 unfold dH at this
 unfold aP
 rw[uu hk] at this ⊢
 exact this
theorem aI {gs:List Gd} (h:aS gs=true):(ad gs).Good:=by
 obtain⟨h1,h3⟩:=bf h
 have HR:∀ g k,g<gs.length→k<(ac gs g).length→eN (ac gs g) k (aP gs g k)=true∧aY (ac gs g) k (aP gs g k)=true∧gr gs g (aP gs g k).needs=true:=by
  intro g k hg hk
  have:=gm (aX h hg) hk
  unfold bd at this
  simp only[uz] at this
  exact⟨this.1.1.1,this.1.1.2,this.1.2⟩
 have HW:∀ g k,g<gs.length→k<(ac gs g).length→0≤(ad gs).back g k∧(0<k→(ad gs).back g k<k)∧(k=0→(ad gs).back g 0=0∧(ad gs).needs g 0=[]):=by
  intro g k hg hk
  have hw:=(HR g k hg hk).2.1
  unfold aY at hw
  show 0≤aD (ac gs g) (aP gs g k).back.data.toList∧(0<k→aD (ac gs g) (aP gs g k).back.data.toList<k)∧(k=0→aD (ac gs g) (aP gs g 0).back.data.toList=0∧(aP gs g 0).needs.map (gS gs)=[])
  generalize hz:aD (ac gs g) (aP gs g k).back.data.toList=z at hw ⊢
  simp only[ws,Bool.or_eq_false_iff,vG,decide_eq_false_iff_not,Bool.not_eq_false',decide_eq_true_eq] at hw
  obtain⟨⟨⟨_,hb⟩,hc⟩,hd⟩:=hw
  refine⟨by omega,fun hk0=>by omega,fun hk0=>?_⟩
  subst hk0
  rw[hz]
  have hd2:z=0∧(aP gs g 0).needs.length=0:=by omega
  exact⟨hd2.1,by rw[List.length_eq_zero_iff.1 hd2.2];rfl⟩
 refine⟨h1,h3,fun g hg=>(bD (aX h hg)).1,fun g hg=>(bD (aX h hg)).2,fun g k hg hk=>cw _ _,fun g k hg hk=>(HW g k hg hk).1,fun g k hg hk hk0=>(HW g k hg hk).2.1 hk0,
  fun g hg=>((HW g 0 hg (bD (aX h hg)).1).2.2 rfl).1,fun g hg=>((HW g 0 hg (bD (aX h hg)).1).2.2 rfl).2,fun g k hg hk x hx=>?_,fun g k hg hk=>?_,fun g k hg hk=>?_⟩
 ·obtain⟨n,hn,rfl⟩:=ve.1 hx
  have hN:=(HR g k hg hk).2.2
  obtain⟨j,hj,e⟩:=vU.1 hn
  have:=uM.1 hN j (uL.2 hj)
  unfold bR at this
  rw[uu hj,e] at this
  simp only[uz] at this
  have h4:=this.1
  unfold dl at h4
  simp only[uz,decide_eq_true_eq] at h4
  show n.guard.toNat<g
  omega
 ·have hS:=(HR g k hg hk).1
  unfold eN at hS
  simp only[uz,decide_eq_true_eq] at hS
  exact hS.1.2
 ·have hS:=(HR g k hg hk).1
  unfold eN at hS
  simp only[uz,decide_eq_true_eq] at hS
  exact hS.2
open Go.RowKit Dc Dg
theorem sn (g:ByteArray) (q:Option Addr) (n cq:Nat) (s:ByteArray) (k:Nat) (w:World) (hk:k<w.heap.size) (hc:w.cell? ⟨k,0,none⟩=some (.string s)) :
  Calls Tryz.prog 36 #[.agg #[.string g,.slice q n cq],.pointer (some ⟨k,0,none⟩)] w fun e w'=>∃ b:Bool,e=.returned (.bool b)∧Hid (decide (g.data.toList=s.data.toList)=b)∧Below w.heap.size w w':=by
 go_enter Tryz.func36,Tryz.ntmps36
 go_wp2
 go_ret
 refine⟨_,rfl,?_,(Below.refl _ _).alloc (uo _) _⟩
 unfold Hid
 rw[←aj,←aj,Bool.eq_iff_iff]
 simp
def iu (l:List Gd) (s:List UInt8):Bool:=l.any (fun x=>decide (x.name.data.toList=s))
theorem oy {gs:List Gd}{n i:Nat}{s:List UInt8} (hi:i<gs.length) (hn:i<n) (h:gs[i].name.data.toList=s):iu (gs.take n) s=true:=by
 unfold iu
 rw[List.any_eq_true]
 refine⟨gs[i],?_,by simp[h]⟩
 rw[vU]
 exact⟨i,by simp;omega,by simp⟩
theorem mJ {gs:List Gd}{i:Nat}{s:List UInt8} (hi:i<gs.length) (h:iu (gs.take i) s=false) (h2:¬ gs[i].name.data.toList=s):iu (gs.take (i+1)) s=false:=by
 unfold iu at h ⊢
 rw[uO,uu hi,wS,h]
 simp[h2]
theorem m4 (p:Option Addr) (c:Nat) (gs:List Gd) (n:Nat) (s:ByteArray) (k:Nat) (w:World) (hl:aQ w p gs) (hn:gs.length≤1000) (hng:n≤gs.length) (hk:k<w.heap.size) (hc:w.cell? ⟨k,0,none⟩=some (.string s)) :
  Calls Tryz.prog 54 #[.slice p n c,.func (.func 36) #[] #[.pointer (some ⟨k,0,none⟩)]] w fun e w'=>∃ z:Int,e=.returned (.int .i64 z)∧Hid (iu (gs.take n) s.data.toList=decide (0≤z))∧Below w.heap.size w w':=by
 go_enter Tryz.func54,Tryz.ntmps54
 go_wp2_with fail
 go_loopw [8] (fun s8 wr=>∃ i:Nat,s8=.int .i64 i∧i≤n∧aQ wr p gs∧Below w.heap.size w wr∧Hid (iu (gs.take i) s.data.toList=false)) (fun s8 _=>n-(intOf s8).toNat)
 case atStart=>exact⟨0,rfl,by omega,hl,Below.refl _ _,rfl⟩
 case round =>
  clear hl
  obtain⟨i,rfl,hi,hl,hb,hx⟩:=hrel
  by_cases hil:i<n
  ·have hig:i<gs.length:=by omega
   obtain⟨b,o,rfl,hbw,hcs⟩:=hl.at_ (by omega)
   obtain⟨q,cq,e0,e1,hR⟩:=hcs i hig
   obtain⟨g,hge⟩:∃ g,g=gs[i]:=⟨_,rfl⟩
   rw[←hge] at e0 e1
   have HR:=uk hge
   have hk2:=uv hk hb.size
   have hc2:=(hb.cell (p:=⟨k,0,none⟩) hk).trans hc
   clear hge hcs hR
   go_wp2_with fail
   refine (sn g.name q g.rungs.length cq s k wr hk2 hc2).mono ?_
   rintro e w2 ⟨bb,rfl,hbb,hb2⟩
   have hb3:=hb.trans (hb2.mono hb.size)
   have hl2:=hl.below hb2
   clear hl hb2 e0 e1 hc2
   cases bb
   ·go_wp2
    go_roundw
    case rel=>exact⟨i+1,by go_num,by omega,hl2,hb3,mJ hig hx.out (by rw[←HR.out];exact of_decide_eq_false hbb.out)⟩
    case measure=>simp[intOf];omega
   ·go_wp2
    go_ret
    exact⟨_,rfl,by unfold Hid;rw[oy hig hil (by rw[←HR.out];exact of_decide_eq_true hbb.out)];simp,hb3⟩
  ·have hie:i=n:=by omega
   subst hie
   clear hil hi
   go_wp2
   go_ret
   exact⟨-1,rfl,by unfold Hid;rw[hx.out];rfl,hb⟩
theorem jJ (p:Option Addr) (c:Nat) (gs:List Gd) (n:Nat) (s:ByteArray) (k:Nat) (w:World) (hl:aQ w p gs) (hn:gs.length≤1000) (hng:n≤gs.length) (hk:k<w.heap.size) (hc:w.cell? ⟨k,0,none⟩=some (.string s)) :
  Calls Tryz.prog 35 #[.slice p n c,.func (.func 36) #[] #[.pointer (some ⟨k,0,none⟩)]] w (dT (iu (gs.take n) s.data.toList) w):=by
 go_enter Tryz.func35,Tryz.ntmps35
 go_wp2_with fail
 refine (m4 p c gs n s k w hl hn hng hk hc).mono ?_
 rintro e w2 ⟨z,rfl,hz,hb⟩
 go_wp2
 go_ret
 exact⟨_,rfl,hz,hb⟩
structure CSt (w0 w:World) (k:Nat) (gs:List Gd) (p:Option Addr) (c:Nat):Prop where
 s0:w.cell? ⟨k,0,none⟩=some (.slice p gs.length c)
 lt:k<w.heap.size
 G:aQ w p gs
 gx:Gx w
 bl:Below w0.heap.size w0 w
theorem CSt.below {w0 w w':World}{k:Nat}{gs:List Gd}{p:Option Addr}{c:Nat} (h:CSt w0 w k gs p c) (hb:Below w.heap.size w w'):CSt w0 w' k gs p c :=
 ⟨(hb.cell (p:=⟨k,0,none⟩) h.lt).trans h.s0,uv h.lt hb.size,h.G.below hb,h.gx.below hb,h.bl.trans (hb.mono h.bl.size)⟩
theorem CSt.new (w:World) (gs:List Gd) (p:Option Addr) (c:Nat) (hG:aQ w p gs) (hX:Gx w):CSt w (w.alloc (.cells #[.slice p gs.length c] 28)) w.heap.size gs p c:=by
 have hb:Below w.heap.size w (w.alloc (.cells #[.slice p gs.length c] 28)):=(Below.refl _ _).alloc (uo _) _
 exact⟨af w _ _ 0 _ rfl,by simp,hG.below hb,hX.below hb,hb⟩
structure DSt (w0 w:World) (k kb:Nat) (gs:List Gd) (p:Option Addr) (c:Nat) (g:Gd) (q:Option Addr) (cq:Nat):Prop where
 C:CSt w0 w k gs p c
 t0:w.cell? ⟨kb,0,none⟩=some (.string g.name)
 t1:w.cell? ⟨kb,1,none⟩=some (.slice q g.rungs.length cq)
 lt:kb<w.heap.size
 R:bP w q g.rungs
theorem DSt.below {w0 w w':World}{k kb:Nat}{gs:List Gd}{p:Option Addr}{c:Nat}{g:Gd}{q:Option Addr}{cq:Nat} (h:DSt w0 w k kb gs p c g q cq) (hb:Below w.heap.size w w'):DSt w0 w' k kb gs p c g q cq :=
 ⟨h.C.below hb,(hb.cell (p:=⟨kb,0,none⟩) h.lt).trans h.t0,(hb.cell (p:=⟨kb,1,none⟩) h.lt).trans h.t1,uv h.lt hb.size,h.R.below hb⟩
structure rR (gs:List Gd):Prop where
 names:∀ g∈gs,g.name.size≤9223372036854775806
 rungs:∀ g∈gs,∀ r∈g.rungs,or r
 len:∀ g∈gs,g.rungs.length≤1000000000000000
theorem cX {gs:List Gd}{i:Nat} (hi:i<gs.length) (h:bh gs i=false):aS gs=false:=by
 unfold aS
 rw[vG]
 right
 rw[vF]
 exact⟨i,uL.2 hi,by rw[h];exact uC⟩
theorem rx {gs:List Gd} (h1:1≤gs.length) (h3:gs.length≤3) (h:(List.range gs.length).all (bh gs)=true):aS gs=true:=by
 unfold aS
 rw[h,decide_eq_true h1,decide_eq_true h3];rfl
theorem rt {gs:List Gd} (h:¬ (1≤gs.length∧gs.length≤3)):aS gs=false:=by
 unfold aS
 rw[vG,vG]
 left
 simp only[decide_eq_false_iff_not]
 omega
theorem gJ {f:Nat→Bool}{n j:Nat} (hj:j<n) (h:f j=false):(List.range n).all f=false:=by
 rw[vF]
 exact⟨j,uL.2 hj,by rw[h];exact uC⟩
theorem qV {gs:List Gd}{i:Nat} (h:ph gs i=true):∀ j (h:j<(ac gs i).length),(ac gs i)[j].next.data.toList=[]∨0≤aD (ac gs i) (ac gs i)[j].next.data.toList:=by
 intro j hj
 have:=uM.1 h j (uL.2 hj)
 unfold dH at this
 rw[uu hj] at this
 simp only at this
 unfold bd at this
 simp only[uz] at this
 have hw:=this.1.1.2
 unfold aY at hw
 simp only[ws,Bool.or_eq_false_iff,vG,decide_eq_false_iff_not,Bool.not_eq_false',decide_eq_true_eq] at hw
 rcases hw.1.1.1 with h | h
 ·exact Or.inl h
 ·exact Or.inr (Int.not_lt.1 h)
theorem lA {gs:List Gd}{i:Nat} (h:cF (fy gs i).name.data.toList=false):bh gs i=false:=by unfold bh;rw[h];rfl
theorem kH {gs:List Gd}{i:Nat} (h:jz gs i=true):bh gs i=false:=by unfold bh;rw[h];simp
theorem mY {gs:List Gd}{i:Nat} (h:(decide (1≤(ac gs i).length)&&decide ((ac gs i).length≤8))=false):bh gs i=false:=by unfold bh;rw[h];simp
theorem mZ {gs:List Gd}{i:Nat} (h:ph gs i=false):bh gs i=false:=by unfold bh;rw[h];simp
theorem lz {gs:List Gd}{i:Nat} (h:e_ gs i=false):bh gs i=false:=by unfold bh;rw[h];simp
theorem lB {gs:List Gd}{i:Nat} (h1:cF (fy gs i).name.data.toList=true) (h2:jz gs i=false) (h3:(decide (1≤(ac gs i).length)&&decide ((ac gs i).length≤8))=true) (h4:ph gs i=true) (h5:e_ gs i=true):bh gs i=true:=by
 unfold bh;rw[h1,h2,h3,h4,h5];rfl
def jT (v:Bool) (n:Int) (w:World) (e:Ending) (w':World):Prop:=e=.returned (.int .i64 (if v then 0 else n))∧Below w.heap.size w w'
theorem jY (gs:List Gd) (p:Option Addr) (c:Nat) (w:World) (hG:aQ w p gs) (hX:Gx w) (hF:rR gs) (hc1:gs.length≤c) (hc2:(c:Int)≤9223372036854775807) :
  Calls Tryz.prog 17 #[.agg #[.slice p gs.length c]] w (jT (aS gs) 40 w):=by
 have S0:=CSt.new w gs p c hG hX
 have HF:=uk hF
 clear hG hX hF
 go_enter Tryz.func17,Tryz.ntmps17
 go_wp2_with fail
 generalize w.alloc (.cells #[.slice p gs.length c] 28)=w0 at S0 ⊢
 refine (bK _ _ _ _).mono ?_
 rintro e w1 ⟨bl,rfl,hbl,rfl⟩
 by_cases hlen:1≤gs.length∧gs.length≤3
 ·obtain rfl:bl=true:=by rw[←hbl.out];simp;omega
  clear hbl
  obtain⟨hl1,hl3⟩:=hlen
  have s0:=S0.s0
  go_wp2_with fail
  go_loopw [16] (fun s16 wx=>∃ i:Nat,s16=.int .i64 i∧i≤gs.length∧CSt w wx w.heap.size gs p c∧Hid ((List.range i).all (bh gs)=true)) (fun s16 _=>gs.length-(intOf s16).toNat)
  case atStart=>exact⟨0,rfl,by omega,S0,rfl⟩
  case round =>
   clear S0 s0
   obtain⟨i,rfl,hi,S,hx⟩:=hrel
   by_cases hil:i<gs.length
   ·obtain⟨b,o,rfl,hbw,hcs⟩:=S.G.at_ (by omega)
    obtain⟨q,cq,e0,e1,hR⟩:=hcs i hil
    obtain⟨g,hge⟩:∃ g,g=gs[i]:=⟨_,rfl⟩
    rw[←hge] at e0 e1 hR
    have hgm:g∈gs:=by rw[hge];exact uH hil
    have hra:ac gs i=g.rungs:=by unfold ac;rw[uu hil,hge]
    have hga:fy gs i=g:=by unfold fy;rw[uu hil,hge]
    have HRA:=uk hra
    have HGA:=uk hga
    have HR:=uk hR
    have hnm:g.name.size≤9223372036854775806:=HF.out.names g hgm
    have hrl:((g.rungs.length:Nat):Int)≤1000000000000000:=by have:=HF.out.len g hgm;omega
    clear hge hcs hra hga hR
    have hbA:Below wr.heap.size wr (wr.alloc (.cells #[.string g.name,.slice q g.rungs.length cq] 61)):=(Below.refl _ _).alloc (uo _) _
    have t0:=af wr #[.string g.name,.slice q g.rungs.length cq] 61 0 _ rfl
    have t1:=af wr #[.string g.name,.slice q g.rungs.length cq] 61 1 _ rfl
    have S1:=S.below hbA
    have HR1:=uk (HR.out.below hbA)
    have hta:wr.heap.size<(wr.alloc (.cells #[.string g.name,.slice q g.rungs.length cq] 61)).heap.size:=by simp
    have s0:=(hbA.cell (p:=⟨w.heap.size,0,none⟩) S.lt).trans S.s0
    clear HR hbA
    have hic:(i:Int)≤(c:Int):=by omega
    go_wp2_with fail
    generalize wr.alloc (.cells #[.string g.name,.slice q g.rungs.length cq] 61)=wa at S1 HR1 t0 t1 hta s0 ⊢
    generalize wr.heap.size=kb at t0 t1 hta ⊢
    refine (jJ (some ⟨b,o,none⟩) c gs i g.name kb wa S1.G (by omega) (by omega) hta t0).mono ?_
    rintro e w2 ⟨tw,rfl,htw,hb2⟩
    have D2:DSt w w2 w.heap.size kb gs (some ⟨b,o,none⟩) c g q cq:=(DSt.mk S1 t0 t1 hta HR1.out).below hb2
    clear S S1 t0 t1 hta HR1 s0 hb2 e0 e1
    have HTW:=uk (show jz gs i=tw by unfold jz;rw[HGA.out];exact htw.out)
    clear htw
    have t0:=D2.t0
    go_wp2_with fail
    refine (sV g.name w2 hnm).mono ?_
    rintro e w3 ⟨bn,rfl,hbn,rfl⟩
    cases bn
    ·have HBN:=uk hbn.out
     clear hbn
     go_wp2
     go_ret
     exact⟨by rw[cX hil (lA (by rw[HGA.out];exact HBN.out))];rfl,D2.C.bl⟩
    ·have HBN:=uk hbn.out
     clear hbn t0
     cases tw
     ·have t1:=D2.t1
      go_wp2_with fail
      refine (bK _ _ _ _).mono ?_
      rintro e w3 ⟨bm,rfl,hbm,rfl⟩
      cases bm
      ·have HBM:=uk (show (decide (1≤(ac gs i).length)&&decide ((ac gs i).length≤8))=false by rw[HRA.out,←hbm.out];congr 1<;>(rw[decide_eq_decide];omega))
       clear hbm
       go_wp2
       go_ret
       exact⟨by rw[cX hil (mY HBM.out)];rfl,D2.C.bl⟩
      ·have HBM:=uk (show (decide (1≤(ac gs i).length)&&decide ((ac gs i).length≤8))=true by rw[HRA.out,←hbm.out];congr 1<;>(rw[decide_eq_decide];omega))
       clear hbm
       have HRS:=uk (show ∀ j,j≤i→(ac gs j).length<1000000 from fun j hj=>by
        rcases vf j i with h | h
        ·have:=(bD (uM.1 hx.out j (uL.2 h))).2;omega
        ·obtain rfl:j=i:=by omega
         have:=HBM.out
         simp only[uz,decide_eq_true_eq] at this
         omega)
       have h8:g.rungs.length≤8:=by
        have:=HBM.out
        rw[HRA.out] at this
        simp only[uz,decide_eq_true_eq] at this
        omega
       have HFI:=uk (show ∀ r∈ac gs i,or r by rw[HRA.out];exact HF.out.rungs g hgm)
       go_wp2_with fail
       go_loopw [44] (fun s44 wx=>∃ k:Nat,s44=.int .i64 k∧k≤g.rungs.length∧DSt w wx w.heap.size kb gs (some ⟨b,o,none⟩) c g q cq∧Hid ((List.range k).all (dH gs i)=true)) (fun s44 _=>g.rungs.length-(intOf s44).toNat)
       case atStart=>exact⟨0,rfl,by omega,D2,rfl⟩
       case round =>
        clear D2 t1
        obtain⟨k,rfl,hk,D,hy⟩:=hrel
        by_cases hkl:k<g.rungs.length
        ·have s0:=D.C.s0
         go_wp2_with fail
         refine (sF gs (some ⟨b,o,none⟩) c i k _ D.C.G D.C.gx hil (by rw[HRA.out];exact hkl) (by omega) HRS.out HFI.out).mono ?_
         rintro e w4 ⟨bk,rfl,hbk,hb4⟩
         have D4:=D.below hb4
         clear D hb4 s0
         cases bk
         ·have HBK:=uk hbk.out
          clear hbk
          go_wp2
          go_ret
          exact⟨by rw[cX hil (mZ (gJ (by rw[HRA.out];exact hkl) HBK.out))];rfl,D4.C.bl⟩
         ·have HBK:=uk hbk.out
          clear hbk
          go_wp2
          go_roundw
          case rel=>exact⟨k+1,by go_num,by omega,D4,bE hy.out HBK.out⟩
          case measure=>simp[intOf];omega
        ·obtain rfl:k=g.rungs.length:=by omega
         have HOK:=uk (show ph gs i=true by unfold ph;rw[HRA.out];exact hy.out)
         have HNX:=uk (qV HOK.out)
         clear hkl hk hy
         have t1:=D.t1
         go_wp2_with fail
         go_loopw [56] (fun s56 wx=>∃ k:Nat,s56=.int .i64 k∧k≤g.rungs.length∧DSt w wx w.heap.size kb gs (some ⟨b,o,none⟩) c g q cq∧Hid ((List.range k).all (fT (ac gs i) (ac gs i).length)=true)) (fun s56 _=>g.rungs.length-(intOf s56).toNat)
         case atStart=>exact⟨0,rfl,by omega,D,rfl⟩
         case round =>
          clear D t1
          obtain⟨k,rfl,hk,D,hy⟩:=hrel
          by_cases hkl:k<g.rungs.length
          ·have t0:=D.t0;have t1:=D.t1
           go_wp2_with fail
           refine (tT g.name q cq g.rungs k _ D.R (by omega) hkl (by rw[←HRA.out];exact HNX.out)).mono ?_
           rintro e w4 ⟨bk,rfl,hbk,hb4⟩
           have D4:=D.below hb4
           clear D hb4 t0 t1
           cases bk
           ·have HBK:=uk hbk.out
            clear hbk
            go_wp2
            go_ret
            exact⟨by rw[cX hil (lz (gJ (j:=k) (by rw[HRA.out];exact hkl) (by rw[HRA.out];exact HBK.out)))];rfl,D4.C.bl⟩
           ·have HBK:=uk hbk.out
            clear hbk
            go_wp2
            go_roundw
            case rel=>exact⟨k+1,by go_num,by omega,D4,bE hy.out (by rw[HRA.out];exact HBK.out)⟩
            case measure=>simp[intOf];omega
          ·obtain rfl:k=g.rungs.length:=by omega
           have HEN:=uk (show e_ gs i=true by unfold e_;have:=hy.out;rw[HRA.out] at this ⊢;exact this)
           have HGD:=uk (lB (by rw[HGA.out];exact HBN.out) HTW.out HBM.out HOK.out HEN.out)
           clear hkl hk hy
           go_wp2
           go_roundw
           case rel=>exact⟨i+1,by go_num,by omega,D.C,bE hx.out HGD.out⟩
           case measure=>simp[intOf];omega
     ·go_wp2
      go_ret
      exact⟨by rw[cX hil (kH HTW.out)];rfl,D2.C.bl⟩
   ·have hie:i=gs.length:=by omega
    subst hie
    clear hil hi
    have HX:=uk (rx hl1 hl3 hx.out)
    clear hx
    go_wp2
    go_ret
    exact⟨by rw[HX.out];rfl,S.bl⟩
 ·obtain rfl:bl=false:=by rw[←hbl.out];simp;omega
  clear hbl
  have HX:=uk (rt hlen)
  clear hlen
  go_wp2
  go_ret
  exact⟨by rw[HX.out];rfl,S0.bl⟩
end Go.Proofs.YtlkniohhalnjjaaGreatDoor
